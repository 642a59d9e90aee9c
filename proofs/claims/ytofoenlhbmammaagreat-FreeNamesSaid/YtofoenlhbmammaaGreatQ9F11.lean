/- ROWS: what every row leans on; values, opened; sets that came in. -/
import Derived.Test.YtofoenlhbmammaaGreatProg
import Derived.WalkSpells
import Derived.Test.YtofoenlhbmammaaGreatRows
import Derived.ProofKit
import Derived.OpenShut
import Derived.ChangeOld
import Derived.Below
import Derived.ChangeSlices
import Derived.Deep.Slices
import Derived.Test.YtofoenlhbmammaaGreatQ2F11
set_option linter.unusedVariables false
set_option linter.unusedSimpArgs false
namespace Go.Proofs.YtofoenlhbmammaaGreat

section
open Go.RowKit Go.Shelf

/-- Words, as they lie. -/
def wcells (ws : List Nat) : List Value := ws.map (fun (x : Nat) => Value.int .u64 (x : Int))
theorem wcells_len (ws : List Nat) : (wcells ws).length = ws.length := by simp [wcells]
theorem wcells_at {ws : List Nat} {k : Nat} (h : k < ws.length) : (wcells ws)[k]? = some (.int .u64 (ws[k] : Int)) := by simp [wcells, h]
/-- Each word fits. -/
def W64 (ws : List Nat) : Prop := ∀ x ∈ ws, x < 18446744073709551616

def nMay (n : Int) : Prop := 1 ≤ n ∧ n ≤ 12288
instance (n : Int) : Decidable (nMay n) := by unfold nMay; infer_instance
def nWords (n : Int) : Nat := ((n + 63) / 64).toNat
/-- No bit at n or beyond. -/
def topClear (n : Int) (ws : List Nat) : Bool := decide (n % 64 = 0) || decide (ws.getD (nWords n - 1) 0 / 2 ^ (n % 64).toNat = 0)
def setMay (n : Int) (ws : List Nat) : Prop := ws.length = nWords n ∧ topClear n ws = true
instance (n : Int) (ws : List Nat) : Decidable (setMay n ws) := by unfold setMay; infer_instance
/-- The error of a set. -/
def sChk (n : Int) (ws : List Nat) : Int := if nMay n then okIf (setMay n ws) 8 else 2

set_option maxRecDepth 100000 in set_option maxHeartbeats 4000000 in
theorem set_words_no (n : Int) (w : World) (h : ¬ nMay n) : Calls Tryz.prog 89 #[.int .i64 n] w fun e w' => e = .returned (.int .i64 (-1)) ∧ w' = w := by
  unfold nMay at h
  by_cases h1 : n < 1
  · go_enter Tryz.func89, Tryz.ntmps89
    go_wp2
    go_returns
    exact ⟨rfl, rfl⟩
  · have h2 : 12288 < n := by omega
    go_enter Tryz.func89, Tryz.ntmps89
    go_wp2
    go_returns
    exact ⟨rfl, rfl⟩

set_option maxRecDepth 100000 in set_option maxHeartbeats 4000000 in
theorem set_words_ok (n : Int) (w : World) (h : nMay n) : Calls Tryz.prog 89 #[.int .i64 n] w fun e w' => e = .returned (.int .i64 (nWords n : Int)) ∧ w' = w := by
  unfold nMay at h
  obtain ⟨h1, h2⟩ := h
  have h3 : ¬ n < 1 := by omega
  have e1 : (n + 64 - 1) / 64 = (nWords n : Int) := by unfold nWords; omega
  have e1 := Lib.hid e1
  go_enter Tryz.func89, Tryz.ntmps89
  go_wp2
  go_returns
  refine ⟨?_, rfl⟩
  rw [← e1.out]; rfl

theorem nWords_pos {n : Int} (h : nMay n) : 1 ≤ nWords n ∧ nWords n ≤ 192 := by unfold nMay at h; unfold nWords; omega

set_option maxRecDepth 100000 in set_option maxHeartbeats 4000000 in
theorem set_Check (n : Int) (base : Option Addr) (cap : Nat) (ws : List Nat) (w : World) (hr : Rd w base (wcells ws)) (hl : ws.length ≤ 4611686018427387904) (h64 : W64 ws) :
    Calls Tryz.prog 55 #[.int .i64 n, .slice base ws.length cap] w fun e w' => e = .returned (.int .i64 (sChk n ws)) ∧ w' = w := by
  by_cases hn : nMay n
  · have hp := nWords_pos hn
    by_cases hlen : ws.length = nWords n
    · have hw : nWords n - 1 < ws.length := by omega
      obtain ⟨b, off, rfl, hc⟩ := hr _ _ (wcells_at hw)
      have hb := h64 _ (List.getElem_mem hw)
      have e0 : ((ws.length : Int) != (nWords n : Int)) = false := by rw [bne_eq_false_iff_eq]; omega
      have e3 : (nWords n : Int) - 1 = ((nWords n - 1 : Nat) : Int) := by omega
      have hn' := hn
      unfold nMay at hn'
      have m0 : 0 ≤ n % 64 := by omega
      have m1 : n % 64 < 64 := by omega
      have p0 : 0 < nWords n := by omega
      have hg : ws.getD (nWords n - 1) 0 = ws[nWords n - 1] := by simp [hw]
      by_cases hm : n % 64 ≤ 0
      · have ht : topClear n ws = true := by simp [topClear, show n % 64 = 0 by omega]
        have hq := Lib.hid (show sChk n ws = 0 by rw [sChk, if_pos hn, okIf_yes ⟨hlen, ht⟩])
        go_enter Tryz.func55, Tryz.ntmps55
        go_wp2_with ((go_at_call 89; refine (set_words_ok n _ hn).mono ?_; rintro e w1 ⟨rfl, rfl⟩))
        go_returns
        exact ⟨by rw [hq.out]; rfl, rfl⟩
      by_cases hz : ws[nWords n - 1] / 2 ^ (n % 64).toNat = 0
      · have ht : topClear n ws = true := by simp only [topClear, hg, hz]; simp
        have hq := Lib.hid (show sChk n ws = 0 by rw [sChk, if_pos hn, okIf_yes ⟨hlen, ht⟩])
        have hk : ((ws[nWords n - 1] : Int) / 2 ^ (n % 64).toNat != 0) = false := by rw [bne_eq_false_iff_eq]; exact_mod_cast hz
        clear hz ht hg
        go_enter Tryz.func55, Tryz.ntmps55
        go_wp2_with ((go_at_call 89; refine (set_words_ok n _ hn).mono ?_; rintro e w1 ⟨rfl, rfl⟩))
        go_returns
        exact ⟨by rw [hq.out]; rfl, rfl⟩
      · have ht : ¬ topClear n ws = true := by simp only [topClear, hg, hz]; simp; omega
        have hq := Lib.hid (show sChk n ws = 8 by rw [sChk, if_pos hn, okIf_no (fun h => ht h.2)])
        have hk : ((ws[nWords n - 1] : Int) / 2 ^ (n % 64).toNat != 0) = true := by rw [bne_iff_ne]; exact_mod_cast hz
        clear hz ht hg
        go_enter Tryz.func55, Tryz.ntmps55
        go_wp2_with ((go_at_call 89; refine (set_words_ok n _ hn).mono ?_; rintro e w1 ⟨rfl, rfl⟩))
        go_returns
        exact ⟨by rw [hq.out]; rfl, rfl⟩
    · have hq := Lib.hid (show sChk n ws = 8 by rw [sChk, if_pos hn, okIf_no (fun h => hlen h.1)])
      have e1 : ((ws.length : Int) == (nWords n : Int)) = false := by rw [beq_eq_false_iff_ne]; omega
      have e2 : ((ws.length : Int) != (nWords n : Int)) = true := by rw [bne_iff_ne]; omega
      go_enter Tryz.func55, Tryz.ntmps55
      go_wp2_with ((go_at_call 89; refine (set_words_ok n _ hn).mono ?_; rintro e w1 ⟨rfl, rfl⟩))
      go_returns
      exact ⟨by rw [hq.out]; rfl, rfl⟩
  · have hq := Lib.hid (show sChk n ws = 2 by rw [sChk, if_neg hn])
    go_enter Tryz.func55, Tryz.ntmps55
    go_wp2_with ((go_at_call 89; refine (set_words_no n _ hn).mono ?_; rintro e w1 ⟨rfl, rfl⟩))
    go_returns
    exact ⟨by rw [hq.out]; rfl, rfl⟩
end

section
section
open Go.ChangeShapes Go.WideShapes Go.ChangeAt Go.RowKit

theorem ownKnob0 : ownKnob Tryz.prog.godebug = none := by kernel_rfl
theorem laidOut0 : laidOutB Tryz.prog = true := by kernel_rfl

/-- The arguments read on as they did. -/
theorem trodAll_below {H : Type} {enc : TypeId × Value → H} {W W' : World} (bel : Below W.heap.size W W') : ∀ (ts : List TypeId) (vs : List Value) (ds : List (DataW H)) (ps : List MemPlace),
    (∀ t ∈ ts, Tryz.prog.readableRec t = true ∧ t < Tryz.prog.types.size) → DataW.TrodAll enc Tryz.prog W 0 (fun _ => true) true ts vs ds ps →
    DataW.TrodAll enc Tryz.prog W' 0 (fun b => decide (b < W.heap.size)) true ts vs ds ps := by
  intro ts
  induction ts with
  | nil =>
    intro vs ds ps _ h
    obtain ⟨rfl, rfl, rfl⟩ := trodAll_nil h
    exact trodAll_mk0
  | cons t ts ih =>
    intro vs ds ps ht h
    obtain ⟨v, vs', d, ds', p, q, rfl, rfl, rfl, h0, hr⟩ := trodAll_cons h
    have hlt : ∀ x ∈ p, x.block < W.heap.size := by obtain ⟨m, hm⟩ := h0; exact DataW.trod_lt m _ _ _ hm
    exact trodAll_cons_mk (Below.trod laidOut0 (ht t (List.mem_cons_self ..)).1 (ht t (List.mem_cons_self ..)).2 h0 bel hlt) (ih _ _ _ (fun t' h' => ht t' (List.mem_cons_of_mem _ h')) hr)

/-- The number in a cell. -/
def numOf : Option Value → Int
  | some (.int _ x) => x
  | _ => 0

set_option maxRecDepth 100000 in set_option maxHeartbeats 4000000 in
/-- An aggregate of integers, opened. -/
theorem open_flat {t : TypeId} {n : Nat} {W : World} {base : Nat} {v : Value} (hd : (∃ fs, Tryz.prog.underlying t = some (.struct fs)) ∨ ∃ k e, Tryz.prog.underlying t = some (.array k e))
    (hc : Tryz.prog.cellsOf t = n) (hts : Tryz.prog.cellTypes Tryz.prog.depth t = some (List.replicate n 3)) (h : Value.okWide Tryz.prog W .any base t v) :
    ∃ l : List Int, l.length = n ∧ v = .agg (l.map (Value.int .i64)).toArray ∧ ∀ x ∈ l, IntKind.i64.has x := by
  have h' : ∃ cs : Array Value, v = .agg cs ∧ cs.size = Tryz.prog.cellsOf t ∧ Row.okWide Tryz.prog W .any base t cs := by
    unfold Value.okWide at h
    rcases hd with ⟨fs, e⟩ | ⟨k, e', e⟩ <;> (rw [e] at h; exact h)
  obtain ⟨cs, rfl, hsz, ts, hts', _, hall⟩ := h'
  rw [hts] at hts'
  cases hts'
  rw [hc] at hsz
  have key : ∀ i (hi : i < cs.size), ∃ x, cs[i] = .int .i64 x ∧ IntKind.i64.has x := by
    intro i hi
    obtain ⟨u, hu, hok⟩ := hall i cs[i] (by simp [hi])
    have e : u = 3 := by
      have := List.mem_of_getElem? hu
      exact (List.mem_replicate.1 this).2
    subst e
    generalize cs[i] = c at hok
    unfold Cell.okWide at hok
    rw [Tryz.underlying3] at hok
    unfold Cell.ok at hok
    rw [Tryz.underlying3] at hok
    cases c <;> simp at hok
    obtain ⟨rfl, hh⟩ := hok
    exact ⟨_, rfl, hh⟩
  refine ⟨(List.range cs.size).map (fun i => numOf cs[i]?), by simp [hsz], ?_, ?_⟩
  · congr 1
    apply Array.ext
    · simp
    · intro i h1 h2
      obtain ⟨x, hx, _⟩ := key i h1
      simp [h1, hx, numOf]
  · intro x hx
    simp only [List.mem_map, List.mem_range] at hx
    obtain ⟨i, hi, rfl⟩ := hx
    obtain ⟨y, hy, hh⟩ := key i hi
    simpa [hi, hy, numOf] using hh

set_option maxRecDepth 100000 in set_option maxHeartbeats 4000000 in
theorem open_dims {W : World} {base : Nat} {v : Value} (h : Value.okWide Tryz.prog W .any base 23 v) : ∃ d : V3, v = .agg #[.int .i64 d.x, .int .i64 d.y, .int .i64 d.z] := by
  obtain ⟨l, hl, rfl, _⟩ := open_flat (n := 3) (.inr ⟨_, _, Tryz.underlying23⟩) (by kernel_rfl) (by kernel_rfl) h
  match l, hl with
  | [x, y, z], _ => exact ⟨⟨x, y, z⟩, rfl⟩
set_option maxRecDepth 100000 in set_option maxHeartbeats 4000000 in
theorem open_box {W : World} {base : Nat} {v : Value} (h : Value.okWide Tryz.prog W .any base 28 v) : ∃ b : Bx, v = .agg #[.int .i64 b.b.x, .int .i64 b.b.y, .int .i64 b.b.z, .int .i64 b.s.x, .int .i64 b.s.y, .int .i64 b.s.z] := by
  obtain ⟨l, hl, rfl, _⟩ := open_flat (n := 6) (.inl ⟨_, Tryz.underlying28⟩) (by kernel_rfl) (by kernel_rfl) h
  match l, hl with
  | [a, b, c, x, y, z], _ => exact ⟨⟨⟨a, b, c⟩, ⟨x, y, z⟩⟩, rfl⟩
end

section
section
open Go.ChangeShapes Go.WideShapes Go.ChangeAt Go.RowKit

set_option maxRecDepth 100000 in set_option maxHeartbeats 4000000 in
/-- A slice of integers of a kind that came in. -/
theorem open_row {H : Type} {enc : TypeId × Value → H} {W : World} {base : Nat} {t e : TypeId} {k : IntKind} (ht : Tryz.prog.underlying t = some (.slice e)) (he : Tryz.prog.underlying e = some (.int k)) (hc : Tryz.prog.cellsOf e = 1)
    {v : Value} {d : DataW H} {p : List MemPlace} (hv : Value.okWide Tryz.prog W .any base t v) (h : DataW.Trod enc Tryz.prog W 0 (fun _ => true) true t v d p) :
    ∃ (bas : Option Addr) (zs : List Int) (cap : Nat), v = .slice bas zs.length cap ∧ Rd W bas (zs.map (Value.int k)) ∧ zs.length ≤ maxLen ∧ (∀ x ∈ zs, k.min ≤ x ∧ x ≤ k.max) ∧ (bas = none → zs.length = 0 ∧ cap = 0) := by
  obtain ⟨a0, len, cap, rfl⟩ := okWide_slice ht hv
  obtain ⟨fuel, hf⟩ := h
  rcases open_ints ht he hc hf with ⟨hcs, _⟩ | ⟨a, len', cap', zs, hcs, _, hle, hmax, hall, _, hcell, hwf⟩
  · simp [Value.cells] at hcs
    obtain ⟨rfl, rfl, rfl⟩ := hcs
    exact ⟨none, [], 0, rfl, Rd.nil _ _, Nat.zero_le _, by simp, fun _ => ⟨rfl, rfl⟩⟩
  · simp [Value.cells] at hcs
    obtain ⟨rfl, rfl, rfl⟩ := hcs
    simp only [if_true] at hall
    have hl : (zs.take len).length = len := by simp; omega
    refine ⟨some a, zs.take len, cap, by rw [hl], ?_, by omega, ?_, fun h => by cases h⟩
    · intro i u hu
      have hi : i < len := by have := (List.getElem?_eq_some_iff.1 hu).1; rw [List.length_map, hl] at this; exact this
      have hsp : a.spot = none := by
        have h0 := hcell 0 (by omega)
        unfold Addr.add at h0
        rw [if_pos rfl] at h0
        unfold World.cell? at h0
        split at h0
        · split at h0
          · cases h0
          · next h => simpa using h
        · cases h0
      have hca := hcell i (by omega)
      obtain ⟨b, off, sp⟩ := a
      simp only at hsp
      subst hsp
      refine ⟨b, off, rfl, ?_⟩
      rw [Addr.add_lit] at hca
      rw [hca, ← hu]
      have : i < zs.length := by omega
      simp [List.getElem?_take, hi, this]
    · intro x hx
      exact by simpa [Lit.wf] using hwf x (List.mem_of_mem_take hx)

theorem map_cast_nat {zs : List Int} (h : ∀ x ∈ zs, IntKind.u64.min ≤ x ∧ x ≤ IntKind.u64.max) : ∃ ws : List Nat, zs.map (Value.int .u64) = wcells ws ∧ ws.length = zs.length ∧ W64 ws := by
  refine ⟨zs.map Int.toNat, ?_, by simp, ?_⟩
  · simp only [wcells, List.map_map]
    apply List.map_congr_left
    intro x hx
    have := (h x hx).1
    simp [IntKind.min, IntKind.signed] at this
    simp only [Function.comp_apply]
    rw [Int.toNat_of_nonneg this]
  · intro y hy
    obtain ⟨x, hx, rfl⟩ := List.mem_map.1 hy
    have h1 := h x hx
    simp [IntKind.min, IntKind.max, IntKind.signed, IntKind.bits] at h1
    omega

set_option maxRecDepth 100000 in set_option maxHeartbeats 4000000 in
theorem open_set {H : Type} {enc : TypeId × Value → H} {W : World} {base : Nat} {v : Value} {d : DataW H} {p : List MemPlace} (hv : Value.okWide Tryz.prog W .any base 33 v) (h : DataW.Trod enc Tryz.prog W 0 (fun _ => true) true 33 v d p) :
    ∃ (bas : Option Addr) (ws : List Nat) (cap : Nat), v = .slice bas ws.length cap ∧ (Rd W bas (wcells ws) ∧ W64 ws) ∧ (bas = none → ws.length = 0 ∧ cap = 0) := by
  obtain ⟨bas, zs, cap, rfl, hr, hl, hz, hn⟩ := open_row Tryz.underlying33 Tryz.underlying56 (by kernel_rfl) hv h
  obtain ⟨ws, e1, e2, e3⟩ := map_cast_nat hz
  rw [e1] at hr
  exact ⟨bas, ws, cap, by rw [e2], ⟨hr, e3⟩, by rw [e2]; exact hn⟩
end
end
end
end Go.Proofs.YtofoenlhbmammaaGreat
