/- GROW: the array of the steps: the code's. -/
import Derived.Laws.EntriesVeiled
import Derived.Test.YtofoenlhbmammaaQ0GrowS1G13
set_option linter.unusedVariables false
set_option linter.unusedSimpArgs false
namespace Go.Proofs.Ytofoenlhbmammaa

section
open Go.RowKit Go.Shelf

/-! ### the array of them -/
def stepF (n j : Nat) : Value := .func (.func 70) #[] #[.pointer (some ⟨n + 2 + 2 * j, 0, none⟩), .pointer (some ⟨n, 0, none⟩), .pointer (some ⟨n + 2 + 2 * j + 1, 0, none⟩)]
def stArr (n k : Nat) : Array Value := ((List.range 6).map (fun j => if j < k then stepF n j else .nilFunc)).toArray
theorem stArr_set (n : Nat) {k : Nat} (hk : k < 6) : (stArr n k).setIfInBounds k (stepF n k) = stArr n (k + 1) := by
  match k, hk with
  | 0, _ => rfl
  | 1, _ => rfl
  | 2, _ => rfl
  | 3, _ => rfl
  | 4, _ => rfl
  | 5, _ => rfl
theorem stArr_get (n k : Nat) {j : Nat} (hj : j < 6) : (stArr n k)[j]? = some (if j < k then stepF n j else .nilFunc) := by
  unfold stArr
  simp [hj]
/-- What the steps read. -/
structure StepsAt (W : World) (n : Nat) (d : V3) (k : Nat) : Prop where
  d : Blk W n 23 #[.int .i64 d.x, .int .i64 d.y, .int .i64 d.z]
  a : ∀ j, j < k → Blk W (n + 2 + 2 * j) 3 #[.int .i64 ((j : Int) / 2)]
  b : ∀ j, j < k → Blk W (n + 2 + 2 * j + 1) 3 #[.int .i64 ((j : Int) % 2)]
theorem StepsAt.keep {W W' : World} {n : Nat} {d : V3} {k : Nat} (h : StepsAt W n d k) (hb : Below W.heap.size W W') : StepsAt W' n d k := ⟨h.d.below hb, fun j hj => (h.a j hj).below hb, fun j hj => (h.b j hj).below hb⟩
set_option maxRecDepth 100000 in set_option maxHeartbeats 4000000 in
theorem grow_steps (d : V3) (w : World) : Calls Try.prog 42 #[.agg #[.int .i64 d.x, .int .i64 d.y, .int .i64 d.z]] w fun e w' => e = .returned (.agg #[stepF w.heap.size 0, stepF w.heap.size 1, stepF w.heap.size 2, stepF w.heap.size 3, stepF w.heap.size 4, stepF w.heap.size 5]) ∧ StepsAt w' w.heap.size d 6 ∧ Below w.heap.size w w' := by
  go_enter Try.func42, Try.ntmps42
  go_wp2_with fail
  go_loopw [6] (fun i wr => ∃ k : Nat, k ≤ 6 ∧ i = .int .i64 k ∧ Blk wr (w.heap.size + 1) 76 (stArr w.heap.size k) ∧ StepsAt wr w.heap.size d k ∧ wr.heap.size = w.heap.size + 2 + 2 * k ∧ Below w.heap.size w wr) (fun i _ => 6 - (intOf i).toNat)
  case atStart =>
    refine ⟨0, Nat.zero_le _, rfl, ?_, ⟨(Blk.new w _ _).alloc _, fun j hj => absurd hj (Nat.not_lt_zero _), fun j hj => absurd hj (Nat.not_lt_zero _)⟩, by simp, by (repeat (first | (with_reducible exact Below.refl _ _) | (with_reducible assumption) | (with_reducible refine below_alloc ?_ _) | (with_reducible refine below_drewN ?_ _) | (with_reducible refine Below.drew ?_) | (with_reducible refine below_then ?_ (by with_reducible assumption)) | (with_reducible refine Below.setCell ?_ (by go_size) _)))⟩
    have h := Blk.new (w.alloc (.cells #[.int .i64 d.x, .int .i64 d.y, .int .i64 d.z] 23)) 76 (stArr w.heap.size 0)
    rw [World.size_alloc] at h
    exact h
  case round =>
    obtain ⟨k, hk, rfl, harr, hst, hsz, hb⟩ := hrel
    by_cases hlt : k < 6
    · have q1 : (k : Int).tdiv 2 = (k / 2 : Nat) := by rw [Int.tdiv_eq_ediv_of_nonneg (Int.natCast_nonneg k)]; omega
      have q2 : (k : Int).tmod 2 = (k % 2 : Nat) := by rw [Int.tmod_eq_emod_of_nonneg (Int.natCast_nonneg k)]; omega
      have q3 : IntKind.i64.wrap ((k / 2 : Nat) : Int) = (k / 2 : Nat) := IntWalk.i64_in _ (by omega)
      have q4 : IntKind.i64.wrap ((k % 2 : Nat) : Int) = (k % 2 : Nat) := IntWalk.i64_in _ (by omega)
      have harl := harr.lt
      have a0 := harr.cell k _ (by rw [stArr_get _ _ hlt, if_neg (by omega)])
      have harr2 := (harr.alloc (.cells #[.int .i64 ((k : Int) / 2)] 3)).alloc (.cells #[.int .i64 ((k : Int) % 2)] 3)
      have f2 := harr2.frozen k
      have a2 := harr2.cell k _ (by rw [stArr_get _ _ hlt, if_neg (by omega)])
      have HA := Lib.hid harr2
      have HS := Lib.hid hst
      have HB := Lib.hid hb
      have HZ := Lib.hid hsz
      have hd6 : decide ((k : Int) < 6) = true := decide_eq_true (by omega)
      clear harr harr2 hst hb hsz a0
      go_wp2_with fail
      have hne : ∀ j, j < 6 → w.heap.size + 2 + 2 * j ≠ w.heap.size + 1 ∧ w.heap.size + 2 + 2 * j + 1 ≠ w.heap.size + 1 := fun j _ => by omega
      have n1 := Blk.new wr 3 #[.int .i64 ((k : Int) / 2)]
      have n2 := Blk.new (wr.alloc (.cells #[.int .i64 ((k : Int) / 2)] 3)) 3 #[.int .i64 ((k : Int) % 2)]
      simp only [World.size_alloc, HZ.out] at n1 n2
      have hA := HA.out.set k (stepF w.heap.size k)
      rw [stArr_set _ hlt] at hA
      have hBB := (below_alloc (below_alloc HB.out (.cells #[.int .i64 ((k : Int) / 2)] 3)) (.cells #[.int .i64 ((k : Int) % 2)] 3)).setCell (p := ⟨w.heap.size + 1, k, none⟩) (show w.heap.size ≤ w.heap.size + 1 by omega) (stepF w.heap.size k)
      have hS : StepsAt (((wr.alloc (.cells #[.int .i64 ((k : Int) / 2)] 3)).alloc (.cells #[.int .i64 ((k : Int) % 2)] 3)).setCell ⟨w.heap.size + 1, k, none⟩ (stepF w.heap.size k)) w.heap.size d (k + 1) := by
        refine ⟨((HS.out.d.alloc _).alloc _).other _ _ _ (by omega), fun j hj => ?_, fun j hj => ?_⟩
        · by_cases e : j = k
          · subst e; exact (n1.alloc _).other _ _ _ (by omega)
          · exact (((HS.out.a j (by omega)).alloc _).alloc _).other _ _ _ (by omega)
        · by_cases e : j = k
          · subst e; exact n2.other _ _ _ (by omega)
          · exact (((HS.out.b j (by omega)).alloc _).alloc _).other _ _ _ (by omega)
      have hzz : (((wr.alloc (.cells #[.int .i64 ((k : Int) / 2)] 3)).alloc (.cells #[.int .i64 ((k : Int) % 2)] 3)).setCell ⟨w.heap.size + 1, k, none⟩ (stepF w.heap.size k)).heap.size = w.heap.size + 2 + 2 * (k + 1) := by
        have := HZ.out
        simp; omega
      have HA3 := Lib.hid hA
      have HB3 := Lib.hid hBB
      have HS3 := Lib.hid hS
      have HZ3 := Lib.hid hzz
      have hq : (Value.func (.func 70) #[] #[.pointer (some ⟨wr.heap.size, 0, none⟩), .pointer (some ⟨w.heap.size, 0, none⟩), .pointer (some ⟨wr.heap.size + 1, 0, none⟩)]) = stepF w.heap.size k := by unfold stepF; rw [HZ.out]
      rw [hq]
      clear hq n1 n2 hA hBB hS hzz f2 a2 hne
      go_roundw
      case rel => exact ⟨k + 1, by omega, by go_num, HA3.out, HS3.out, HZ3.out, HB3.out⟩
      case measure => (simp [intOf] <;> omega)
    · obtain rfl : k = 6 := by omega
      have r0 := harr.cell 0 _ (stArr_get _ _ (by omega))
      have r1 := harr.cell 1 _ (stArr_get _ _ (by omega))
      have r2 := harr.cell 2 _ (stArr_get _ _ (by omega))
      have r3 := harr.cell 3 _ (stArr_get _ _ (by omega))
      have r4 := harr.cell 4 _ (stArr_get _ _ (by omega))
      have r5 := harr.cell 5 _ (stArr_get _ _ (by omega))
      simp only [Nat.lt_irrefl, Nat.reduceLT, if_true] at r0 r1 r2 r3 r4 r5
      have HS := Lib.hid hst
      have HB := Lib.hid hb
      clear harr hst hb hsz
      go_wp2_with fail
      refine bodyPost_ret (by simp [results, Try.results42, go_sem, r0, r1, r2, r3, r4, r5]; try rfl) rfl ?_
      exact ⟨rfl, HS.out, HB.out⟩
end
end Go.Proofs.Ytofoenlhbmammaa
