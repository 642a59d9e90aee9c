/- REF 05: cables; their ends; lines; runs. -/
import Derived.Test.YtofoenlhbmammaaGreatQ3FreeTells
import Derived.Test.YtofoenlhbmammaaGreatQ6FreeTells
import Derived.Test.YtofoenlhbmammaaGreatQ0Line
import Derived.Test.YtofoenlhbmammaaGreatQ16FreeTells
namespace Go.Proofs.YtofoenlhbmammaaGreat

section
section
open Go.RowKit Go.Shelf

end

section
open Go.RowKit Go.Shelf

theorem ret_4 {a b c e a' b' c' e' : Int} (h1 : a = a') (h2 : b = b') (h3 : c = c') (h4 : e = e') : Ending.returned (.tuple #[.int .i64 a, .int .i64 b, .int .i64 c, .int .i64 e]) = .returned (.tuple #[.int .i64 a', .int .i64 b', .int .i64 c', .int .i64 e']) := by rw [h1, h2, h3, h4]
end

section
open Go.RowKit Go.Shelf

set_option maxRecDepth 100000 in set_option maxHeartbeats 4000000 in
theorem ref05_Among (d : V3) (k : Nat) (m : Int) (many : Nat) (o : Int) (w : World) (hd : d.may) (hk : k < 3) (m0 : 0 ≤ m) (m1 : m < d.n) (hmany : many ≤ 1000) :
    Calls Tryz.prog 150 #[.agg #[.int .i64 d.x, .int .i64 d.y, .int .i64 d.z], .int .i64 k, .int .i64 m, .int .i64 many, .int .i64 o] w (RB w (.bool (d.amongTo k m many o))) := by
  have HS := Lib.hid (fun (i : Nat) (hi : i ≤ 1000) W => ref01_On d m k i W hd m0 m1 hk (by omega) (by omega))
  have HSu := Lib.hid (fun i => V3.amongTo_succ d k m i o)
  have HHit := Lib.hid (fun (i : Nat) (hi : i < many) h => V3.amongTo_hit (d := d) (k := k) (m := m) (o := o) hi h)
  have HZ := Lib.hid (V3.amongTo_zero d k m o)
  clear hd m0 m1
  (have HB := Lib.hid (show Below w.heap.size w (w.alloc (.cells #[.int .i64 d.x, .int .i64 d.y, .int .i64 d.z] 23)) by (repeat (first | (with_reducible exact Below.refl _ _) | (with_reducible assumption) | (with_reducible refine below_alloc ?_ _) | (with_reducible refine below_drewN ?_ _) | (with_reducible refine Below.drew ?_) | (with_reducible refine below_then ?_ (by with_reducible assumption)) | (with_reducible refine Below.setCell ?_ (by go_size) _)))); have BD := Lib.hid (Blk.new w 23 #[.int .i64 d.x, .int .i64 d.y, .int .i64 d.z]).dims)
  go_enter Tryz.func150, Tryz.ntmps150
  go_wp2_with fail
  go_loopw [11] (fun a wr => ∃ i : Nat, i ≤ many ∧ a = .int .i64 i ∧ d.amongTo k m i o = false ∧ Below w.heap.size w wr ∧ DimsAt wr w.heap.size d) (fun a _ => many - (intOf a).toNat)
  case atStart => exact ⟨0, Nat.zero_le _, rfl, HZ.out, HB.out, BD.out⟩
  case round =>
    obtain ⟨i, hi, rfl, hA, hbel, hD⟩ := hrel
    have HA := Lib.hid hA
    have HB := Lib.hid hbel
    have BD := Lib.hid hD
    clear hA hbel hD
    by_cases hlt : i < many
    · have HS1 := Lib.hid (fun W => HS.out i (by omega) W)
      have HSu := Lib.hid (HSu.out i)
      have HHit := Lib.hid (HHit.out i hlt)
      obtain ⟨s, hs⟩ : ∃ s, s = d.step m k i := ⟨_, rfl⟩
      rw [← hs] at HS1 HSu HHit
      clear hs
      have hlt0 := BD.out.lt
      obtain ⟨d0, d1, d2⟩ := BD.out
      go_wp2_with fail
      clear d0 d1 d2
      refine (HS1.out _).mono ?_
      rintro e w1 ⟨rfl, hb1⟩
      have BD := Lib.hid (BD.out.keep hb1 BD.out.lt)
      have HB := Lib.hid (below_then HB.out hb1)
      clear hb1
      by_cases he : s = o
      · have hq : (s == o) = true := by simpa using he
        have HR := Lib.hid (HHit.out he)
        clear he
        go_wp2_with fail
        go_returns
        exact ⟨by rw [HR.out]; rfl, HB.out⟩
      · have hq : (s == o) = false := by simpa using he
        have HR := Lib.hid (show d.amongTo k m (i + 1) o = false by rw [HSu.out, HA.out, decide_eq_false he]; rfl)
        clear he
        go_wp2_with fail
        go_roundw
        case rel => exact ⟨i + 1, by omega, by go_num, HR.out, HB.out, BD.out⟩
        case measure => (simp [intOf] <;> omega)
    · obtain rfl : i = many := by omega
      clear hi hlt
      go_wp2_with fail
      go_returns
      exact ⟨by rw [HA.out]; rfl, HB.out⟩
set_option maxRecDepth 100000 in set_option maxHeartbeats 4000000 in
theorem ref05_taken0 (d : V3) (m : Int) (many : Nat) (w : World) (hd : d.may) (m0 : 0 ≤ m) (m1 : m < d.n) (hmany : many ≤ 1000) :
    Calls Tryz.prog 133 #[.agg #[.int .i64 d.x, .int .i64 d.y, .int .i64 d.z], .int .i64 0, .int .i64 m, .int .i64 many] w (RI w (d.taken 0 m many)) := by
  have hn := V3.n_le hd
  obtain ⟨i0, hi, iz0, iz1, iz2⟩ := info_parts infoInt
  have HN := Lib.hid (fun W => ref01_N d W hd)
  have HA := Lib.hid (fun (o : Int) W => ref05_Among d 0 m many o W hd (by decide) m0 m1 hmany)
  clear hd m0 m1 hmany
  have H0 := Lib.hid (show ¬ d.x ≤ 1 → d.taken 0 m many = d.takenTo 0 m many d.n.toNat from fun h => if_neg h)
  have H1 := Lib.hid (show d.x ≤ 1 → d.taken 0 m many = [] from fun h => if_pos h)
  have HU := Lib.hid (fun j => V3.takenTo_succ d 0 m many j)
  have HL := Lib.hid (fun j => V3.takenTo_len d 0 m many j)
  have HZ := Lib.hid (show d.takenTo 0 m many 0 = [] from rfl)
  obtain ⟨n, hne⟩ : ∃ n, n = d.n := ⟨_, rfl⟩
  rw [← hne] at hn HN H0
  simp only [← hne] at HU
  clear hne
  (have HB := Lib.hid (show Below w.heap.size w (w.alloc (.cells #[.int .i64 d.x, .int .i64 d.y, .int .i64 d.z] 23)) by (repeat (first | (with_reducible exact Below.refl _ _) | (with_reducible assumption) | (with_reducible refine below_alloc ?_ _) | (with_reducible refine below_drewN ?_ _) | (with_reducible refine Below.drew ?_) | (with_reducible refine below_then ?_ (by with_reducible assumption)) | (with_reducible refine Below.setCell ?_ (by go_size) _)))); have BD := Lib.hid (Blk.new w 23 #[.int .i64 d.x, .int .i64 d.y, .int .i64 d.z]).dims)
  go_enter Tryz.func133, Tryz.ntmps133
  go_wp2_with fail
  have hlt0 := BD.out.lt
  refine (HN.out _).mono ?_
  rintro e w1 ⟨rfl, hb1⟩
  have BD := Lib.hid (BD.out.keep hb1 BD.out.lt)
  have HB := Lib.hid (below_then HB.out hb1)
  have hz1 := hb1.size
  (try simp at hz1)
  clear hb1
  by_cases hx : d.x ≤ 1
  · have h1 : decide (1 < d.x) = false := decide_eq_false (by omega)
    have HR := Lib.hid (H1.out hx)
    clear H1 H0 hx
    have hlt0 := BD.out.lt
    obtain ⟨d0, d1, d2⟩ := BD.out
    go_wp2_with fail
    refine wp_loop_rounds 1 ?_
    go_wp2_with (rw [rounds_succ])
    go_returns
    exact ⟨_, rfl, by rw [HR.out]; exact World.ownsRow_nil _ _ _ _, HB.out⟩
  have h1 : decide (1 < d.x) = true := decide_eq_true (by omega)
  have HR := Lib.hid (H0.out (by omega))
  clear H0 H1 hx
  have hlt0 := BD.out.lt
  obtain ⟨d0, d1, d2⟩ := BD.out
  go_wp2_with fail
  clear d0 d1 d2
  go_loopw [9, 11] (fun v a wr => ∃ j : Nat, (j : Int) ≤ n ∧ a = .int .i64 j ∧ wr.ownsRow (w.heap.size + 1) 3 1 v (d.takenTo 0 m many j).length (ic (d.takenTo 0 m many j)) ∧ Below w.heap.size w wr ∧ DimsAt wr w.heap.size d) (fun _ a _ => n.toNat - (intOf a).toNat)
  case atStart => exact ⟨0, by omega, rfl, by rw [HZ.out]; exact World.ownsRow_nil _ _ _ _, HB.out, BD.out⟩
  case round =>
    obtain ⟨j, hj, rfl, hown, hbel, hD⟩ := hrel
    have HO := Lib.hid hown
    have HB := Lib.hid hbel
    have BD := Lib.hid hD
    have HU := Lib.hid (HU.out j)
    have hul := HL.out j
    clear hown hbel hD
    by_cases hlt : (j : Int) < n
    · have HA1 := Lib.hid (fun W => HA.out j W)
      have hlt0 := BD.out.lt
      obtain ⟨d0, d1, d2⟩ := BD.out
      cases ha : d.amongTo 0 m many (j : Int) with
      | false =>
        have HU := Lib.hid (show d.takenTo 0 m many (j + 1) = d.takenTo 0 m many j by rw [HU.out, ha]; rfl)
        rw [ha] at HA1
        clear ha
        go_wp2_with fail
        clear d0 d1 d2
        refine (HA1.out _).mono ?_
        rintro e w2 ⟨rfl, hb1⟩
        have BD := Lib.hid (BD.out.keep hb1 BD.out.lt)
        have HB := Lib.hid (below_then HB.out hb1)
        have HO := Lib.hid (own_keep HO.out hb1)
        clear hb1
        go_wp2_with fail
        go_roundw
        case rel => exact ⟨j + 1, by omega, by go_num, by rw [HU.out]; exact HO.out, HB.out, BD.out⟩
        case measure => (simp [intOf] <;> omega)
      | true =>
        have HU := Lib.hid (show d.takenTo 0 m many (j + 1) = d.takenTo 0 m many j ++ [(0 : Int) * n + (j : Int)] by rw [HU.out, ha]; rfl)
        rw [ha] at HA1
        clear ha
        go_wp2_with fail
        clear d0 d1 d2
        refine (HA1.out _).mono ?_
        rintro e w2 ⟨rfl, hb1⟩
        have BD := Lib.hid (BD.out.keep hb1 BD.out.lt)
        have HB := Lib.hid (below_then HB.out hb1)
        have HO := Lib.hid (own_keep HO.out hb1)
        have hlt0 := BD.out.lt
        clear hb1
        go_wp2_with (at_builtin; refine wpList_append_own _ rfl _ _ 83 rfl (w.heap.size + 1) 3 i0 (.int .i64 0) 1 8 Tryz.underlying83 hi iz0 iz1 iz2 rfl (by decide) _ _ _ rfl ((HO.out).alloc _) ⟨_, 0, none⟩ 1 1 [.int .i64 ((j : Int))] rfl rfl (cell_new1 _ _ _) (by simp [Value.oneCell']) ?ap3 ?ap4 ?ap5 ?_)
        case ap3 => unfold maxLen; omega
        case ap4 => omega
        case ap5 => simp; omega
        intro v' w3 o3 hg3 _
        have n3 := own_below (HO.out.alloc _) hg3 (by simp; omega)
        have m3 := ((Below.refl w2.heap.size w2).alloc (Nat.le_refl _) _).mono (show w.heap.size + 1 ≤ w2.heap.size by omega) |>.trans n3
        have HB := Lib.hid (HB.out.trans (m3.mono (by omega)))
        have BD := Lib.hid (BD.out.keep m3 (by omega))
        have HO := Lib.hid (show w3.ownsRow (w.heap.size + 1) 3 1 v' (d.takenTo 0 m many (j + 1)).length (ic (d.takenTo 0 m many (j + 1))) by rw [HU.out]; simpa [ic] using o3)
        clear m3 n3 o3 hg3
        go_wp2_with fail
        go_roundw
        case rel => exact ⟨j + 1, by omega, by go_num, HO.out, HB.out, BD.out⟩
        case measure => (simp [intOf] <;> omega)
    · obtain rfl : j = n.toNat := by omega
      clear HU hul
      go_wp2_with fail
      go_returns
      exact ⟨_, rfl, by rw [HR.out]; exact own_mono HO.out (by omega), HB.out⟩
set_option maxRecDepth 100000 in set_option maxHeartbeats 4000000 in
theorem ref05_taken1 (d : V3) (m : Int) (many : Nat) (w : World) (hd : d.may) (m0 : 0 ≤ m) (m1 : m < d.n) (hmany : many ≤ 1000) :
    Calls Tryz.prog 133 #[.agg #[.int .i64 d.x, .int .i64 d.y, .int .i64 d.z], .int .i64 1, .int .i64 m, .int .i64 many] w (RI w (d.taken 1 m many)) := by
  have hn := V3.n_le hd
  obtain ⟨i0, hi, iz0, iz1, iz2⟩ := info_parts infoInt
  have HN := Lib.hid (fun W => ref01_N d W hd)
  have HA := Lib.hid (fun (o : Int) W => ref05_Among d 1 m many o W hd (by decide) m0 m1 hmany)
  clear hd m0 m1 hmany
  have H0 := Lib.hid (show ¬ d.y ≤ 1 → d.taken 1 m many = d.takenTo 1 m many d.n.toNat from fun h => if_neg h)
  have H1 := Lib.hid (show d.y ≤ 1 → d.taken 1 m many = [] from fun h => if_pos h)
  have HU := Lib.hid (fun j => V3.takenTo_succ d 1 m many j)
  have HL := Lib.hid (fun j => V3.takenTo_len d 1 m many j)
  have HZ := Lib.hid (show d.takenTo 1 m many 0 = [] from rfl)
  obtain ⟨n, hne⟩ : ∃ n, n = d.n := ⟨_, rfl⟩
  rw [← hne] at hn HN H0
  simp only [← hne] at HU
  clear hne
  (have HB := Lib.hid (show Below w.heap.size w (w.alloc (.cells #[.int .i64 d.x, .int .i64 d.y, .int .i64 d.z] 23)) by (repeat (first | (with_reducible exact Below.refl _ _) | (with_reducible assumption) | (with_reducible refine below_alloc ?_ _) | (with_reducible refine below_drewN ?_ _) | (with_reducible refine Below.drew ?_) | (with_reducible refine below_then ?_ (by with_reducible assumption)) | (with_reducible refine Below.setCell ?_ (by go_size) _)))); have BD := Lib.hid (Blk.new w 23 #[.int .i64 d.x, .int .i64 d.y, .int .i64 d.z]).dims)
  go_enter Tryz.func133, Tryz.ntmps133
  go_wp2_with fail
  have hlt0 := BD.out.lt
  refine (HN.out _).mono ?_
  rintro e w1 ⟨rfl, hb1⟩
  have BD := Lib.hid (BD.out.keep hb1 BD.out.lt)
  have HB := Lib.hid (below_then HB.out hb1)
  have hz1 := hb1.size
  (try simp at hz1)
  clear hb1
  by_cases hx : d.y ≤ 1
  · have h1 : decide (1 < d.y) = false := decide_eq_false (by omega)
    have HR := Lib.hid (H1.out hx)
    clear H1 H0 hx
    have hlt0 := BD.out.lt
    obtain ⟨d0, d1, d2⟩ := BD.out
    go_wp2_with fail
    refine wp_loop_rounds 1 ?_
    go_wp2_with (rw [rounds_succ])
    go_returns
    exact ⟨_, rfl, by rw [HR.out]; exact World.ownsRow_nil _ _ _ _, HB.out⟩
  have h1 : decide (1 < d.y) = true := decide_eq_true (by omega)
  have HR := Lib.hid (H0.out (by omega))
  clear H0 H1 hx
  have hlt0 := BD.out.lt
  obtain ⟨d0, d1, d2⟩ := BD.out
  go_wp2_with fail
  clear d0 d1 d2
  go_loopw [9, 11] (fun v a wr => ∃ j : Nat, (j : Int) ≤ n ∧ a = .int .i64 j ∧ wr.ownsRow (w.heap.size + 1) 3 1 v (d.takenTo 1 m many j).length (ic (d.takenTo 1 m many j)) ∧ Below w.heap.size w wr ∧ DimsAt wr w.heap.size d) (fun _ a _ => n.toNat - (intOf a).toNat)
  case atStart => exact ⟨0, by omega, rfl, by rw [HZ.out]; exact World.ownsRow_nil _ _ _ _, HB.out, BD.out⟩
  case round =>
    obtain ⟨j, hj, rfl, hown, hbel, hD⟩ := hrel
    have HO := Lib.hid hown
    have HB := Lib.hid hbel
    have BD := Lib.hid hD
    have HU := Lib.hid (HU.out j)
    have hul := HL.out j
    clear hown hbel hD
    by_cases hlt : (j : Int) < n
    · have HA1 := Lib.hid (fun W => HA.out j W)
      have hlt0 := BD.out.lt
      obtain ⟨d0, d1, d2⟩ := BD.out
      cases ha : d.amongTo 1 m many (j : Int) with
      | false =>
        have HU := Lib.hid (show d.takenTo 1 m many (j + 1) = d.takenTo 1 m many j by rw [HU.out, ha]; rfl)
        rw [ha] at HA1
        clear ha
        go_wp2_with fail
        clear d0 d1 d2
        refine (HA1.out _).mono ?_
        rintro e w2 ⟨rfl, hb1⟩
        have BD := Lib.hid (BD.out.keep hb1 BD.out.lt)
        have HB := Lib.hid (below_then HB.out hb1)
        have HO := Lib.hid (own_keep HO.out hb1)
        clear hb1
        go_wp2_with fail
        go_roundw
        case rel => exact ⟨j + 1, by omega, by go_num, by rw [HU.out]; exact HO.out, HB.out, BD.out⟩
        case measure => (simp [intOf] <;> omega)
      | true =>
        have HU := Lib.hid (show d.takenTo 1 m many (j + 1) = d.takenTo 1 m many j ++ [(1 : Int) * n + (j : Int)] by rw [HU.out, ha]; rfl)
        rw [ha] at HA1
        clear ha
        go_wp2_with fail
        clear d0 d1 d2
        refine (HA1.out _).mono ?_
        rintro e w2 ⟨rfl, hb1⟩
        have BD := Lib.hid (BD.out.keep hb1 BD.out.lt)
        have HB := Lib.hid (below_then HB.out hb1)
        have HO := Lib.hid (own_keep HO.out hb1)
        have hlt0 := BD.out.lt
        clear hb1
        go_wp2_with (at_builtin; refine wpList_append_own _ rfl _ _ 83 rfl (w.heap.size + 1) 3 i0 (.int .i64 0) 1 8 Tryz.underlying83 hi iz0 iz1 iz2 rfl (by decide) _ _ _ rfl ((HO.out).alloc _) ⟨_, 0, none⟩ 1 1 [.int .i64 (n + (j : Int))] rfl rfl (cell_new1 _ _ _) (by simp [Value.oneCell']) ?ap3 ?ap4 ?ap5 ?_)
        case ap3 => unfold maxLen; omega
        case ap4 => omega
        case ap5 => simp; omega
        intro v' w3 o3 hg3 _
        have n3 := own_below (HO.out.alloc _) hg3 (by simp; omega)
        have m3 := ((Below.refl w2.heap.size w2).alloc (Nat.le_refl _) _).mono (show w.heap.size + 1 ≤ w2.heap.size by omega) |>.trans n3
        have HB := Lib.hid (HB.out.trans (m3.mono (by omega)))
        have BD := Lib.hid (BD.out.keep m3 (by omega))
        have HO := Lib.hid (show w3.ownsRow (w.heap.size + 1) 3 1 v' (d.takenTo 1 m many (j + 1)).length (ic (d.takenTo 1 m many (j + 1))) by rw [HU.out]; simpa [ic] using o3)
        clear m3 n3 o3 hg3
        go_wp2_with fail
        go_roundw
        case rel => exact ⟨j + 1, by omega, by go_num, HO.out, HB.out, BD.out⟩
        case measure => (simp [intOf] <;> omega)
    · obtain rfl : j = n.toNat := by omega
      clear HU hul
      go_wp2_with fail
      go_returns
      exact ⟨_, rfl, by rw [HR.out]; exact own_mono HO.out (by omega), HB.out⟩
set_option maxRecDepth 100000 in set_option maxHeartbeats 4000000 in
theorem ref05_taken2 (d : V3) (m : Int) (many : Nat) (w : World) (hd : d.may) (m0 : 0 ≤ m) (m1 : m < d.n) (hmany : many ≤ 1000) :
    Calls Tryz.prog 133 #[.agg #[.int .i64 d.x, .int .i64 d.y, .int .i64 d.z], .int .i64 2, .int .i64 m, .int .i64 many] w (RI w (d.taken 2 m many)) := by
  have hn := V3.n_le hd
  obtain ⟨i0, hi, iz0, iz1, iz2⟩ := info_parts infoInt
  have HN := Lib.hid (fun W => ref01_N d W hd)
  have HA := Lib.hid (fun (o : Int) W => ref05_Among d 2 m many o W hd (by decide) m0 m1 hmany)
  clear hd m0 m1 hmany
  have H0 := Lib.hid (show ¬ d.z ≤ 1 → d.taken 2 m many = d.takenTo 2 m many d.n.toNat from fun h => if_neg h)
  have H1 := Lib.hid (show d.z ≤ 1 → d.taken 2 m many = [] from fun h => if_pos h)
  have HU := Lib.hid (fun j => V3.takenTo_succ d 2 m many j)
  have HL := Lib.hid (fun j => V3.takenTo_len d 2 m many j)
  have HZ := Lib.hid (show d.takenTo 2 m many 0 = [] from rfl)
  obtain ⟨n, hne⟩ : ∃ n, n = d.n := ⟨_, rfl⟩
  rw [← hne] at hn HN H0
  simp only [← hne] at HU
  clear hne
  (have HB := Lib.hid (show Below w.heap.size w (w.alloc (.cells #[.int .i64 d.x, .int .i64 d.y, .int .i64 d.z] 23)) by (repeat (first | (with_reducible exact Below.refl _ _) | (with_reducible assumption) | (with_reducible refine below_alloc ?_ _) | (with_reducible refine below_drewN ?_ _) | (with_reducible refine Below.drew ?_) | (with_reducible refine below_then ?_ (by with_reducible assumption)) | (with_reducible refine Below.setCell ?_ (by go_size) _)))); have BD := Lib.hid (Blk.new w 23 #[.int .i64 d.x, .int .i64 d.y, .int .i64 d.z]).dims)
  go_enter Tryz.func133, Tryz.ntmps133
  go_wp2_with fail
  have hlt0 := BD.out.lt
  refine (HN.out _).mono ?_
  rintro e w1 ⟨rfl, hb1⟩
  have BD := Lib.hid (BD.out.keep hb1 BD.out.lt)
  have HB := Lib.hid (below_then HB.out hb1)
  have hz1 := hb1.size
  (try simp at hz1)
  clear hb1
  by_cases hx : d.z ≤ 1
  · have h1 : decide (1 < d.z) = false := decide_eq_false (by omega)
    have HR := Lib.hid (H1.out hx)
    clear H1 H0 hx
    have hlt0 := BD.out.lt
    obtain ⟨d0, d1, d2⟩ := BD.out
    go_wp2_with fail
    refine wp_loop_rounds 1 ?_
    go_wp2_with (rw [rounds_succ])
    go_returns
    exact ⟨_, rfl, by rw [HR.out]; exact World.ownsRow_nil _ _ _ _, HB.out⟩
  have h1 : decide (1 < d.z) = true := decide_eq_true (by omega)
  have HR := Lib.hid (H0.out (by omega))
  clear H0 H1 hx
  have hlt0 := BD.out.lt
  obtain ⟨d0, d1, d2⟩ := BD.out
  go_wp2_with fail
  clear d0 d1 d2
  go_loopw [9, 11] (fun v a wr => ∃ j : Nat, (j : Int) ≤ n ∧ a = .int .i64 j ∧ wr.ownsRow (w.heap.size + 1) 3 1 v (d.takenTo 2 m many j).length (ic (d.takenTo 2 m many j)) ∧ Below w.heap.size w wr ∧ DimsAt wr w.heap.size d) (fun _ a _ => n.toNat - (intOf a).toNat)
  case atStart => exact ⟨0, by omega, rfl, by rw [HZ.out]; exact World.ownsRow_nil _ _ _ _, HB.out, BD.out⟩
  case round =>
    obtain ⟨j, hj, rfl, hown, hbel, hD⟩ := hrel
    have HO := Lib.hid hown
    have HB := Lib.hid hbel
    have BD := Lib.hid hD
    have HU := Lib.hid (HU.out j)
    have hul := HL.out j
    clear hown hbel hD
    by_cases hlt : (j : Int) < n
    · have HA1 := Lib.hid (fun W => HA.out j W)
      have hlt0 := BD.out.lt
      obtain ⟨d0, d1, d2⟩ := BD.out
      cases ha : d.amongTo 2 m many (j : Int) with
      | false =>
        have HU := Lib.hid (show d.takenTo 2 m many (j + 1) = d.takenTo 2 m many j by rw [HU.out, ha]; rfl)
        rw [ha] at HA1
        clear ha
        go_wp2_with fail
        clear d0 d1 d2
        refine (HA1.out _).mono ?_
        rintro e w2 ⟨rfl, hb1⟩
        have BD := Lib.hid (BD.out.keep hb1 BD.out.lt)
        have HB := Lib.hid (below_then HB.out hb1)
        have HO := Lib.hid (own_keep HO.out hb1)
        clear hb1
        go_wp2_with fail
        go_roundw
        case rel => exact ⟨j + 1, by omega, by go_num, by rw [HU.out]; exact HO.out, HB.out, BD.out⟩
        case measure => (simp [intOf] <;> omega)
      | true =>
        have HU := Lib.hid (show d.takenTo 2 m many (j + 1) = d.takenTo 2 m many j ++ [(2 : Int) * n + (j : Int)] by rw [HU.out, ha]; rfl)
        rw [ha] at HA1
        clear ha
        go_wp2_with fail
        clear d0 d1 d2
        refine (HA1.out _).mono ?_
        rintro e w2 ⟨rfl, hb1⟩
        have BD := Lib.hid (BD.out.keep hb1 BD.out.lt)
        have HB := Lib.hid (below_then HB.out hb1)
        have HO := Lib.hid (own_keep HO.out hb1)
        have hlt0 := BD.out.lt
        clear hb1
        go_wp2_with (at_builtin; refine wpList_append_own _ rfl _ _ 83 rfl (w.heap.size + 1) 3 i0 (.int .i64 0) 1 8 Tryz.underlying83 hi iz0 iz1 iz2 rfl (by decide) _ _ _ rfl ((HO.out).alloc _) ⟨_, 0, none⟩ 1 1 [.int .i64 (2 * n + (j : Int))] rfl rfl (cell_new1 _ _ _) (by simp [Value.oneCell']) ?ap3 ?ap4 ?ap5 ?_)
        case ap3 => unfold maxLen; omega
        case ap4 => omega
        case ap5 => simp; omega
        intro v' w3 o3 hg3 _
        have n3 := own_below (HO.out.alloc _) hg3 (by simp; omega)
        have m3 := ((Below.refl w2.heap.size w2).alloc (Nat.le_refl _) _).mono (show w.heap.size + 1 ≤ w2.heap.size by omega) |>.trans n3
        have HB := Lib.hid (HB.out.trans (m3.mono (by omega)))
        have BD := Lib.hid (BD.out.keep m3 (by omega))
        have HO := Lib.hid (show w3.ownsRow (w.heap.size + 1) 3 1 v' (d.takenTo 2 m many (j + 1)).length (ic (d.takenTo 2 m many (j + 1))) by rw [HU.out]; simpa [ic] using o3)
        clear m3 n3 o3 hg3
        go_wp2_with fail
        go_roundw
        case rel => exact ⟨j + 1, by omega, by go_num, HO.out, HB.out, BD.out⟩
        case measure => (simp [intOf] <;> omega)
    · obtain rfl : j = n.toNat := by omega
      clear HU hul
      go_wp2_with fail
      go_returns
      exact ⟨_, rfl, by rw [HR.out]; exact own_mono HO.out (by omega), HB.out⟩
theorem ref05_taken (d : V3) (k : Nat) (m : Int) (many : Nat) (w : World) (hk : k < 3) (hd : d.may) (m0 : 0 ≤ m) (m1 : m < d.n) (hmany : many ≤ 1000) :
    Calls Tryz.prog 133 #[.agg #[.int .i64 d.x, .int .i64 d.y, .int .i64 d.z], .int .i64 k, .int .i64 m, .int .i64 many] w (RI w (d.taken k m many)) := by
  match k, hk with
  | 0, _ => exact ref05_taken0 d m many w hd m0 m1 hmany
  | 1, _ => exact ref05_taken1 d m many w hd m0 m1 hmany
  | 2, _ => exact ref05_taken2 d m many w hd m0 m1 hmany
end

section
open Go.RowKit Go.Shelf

def V3.tookV (d : V3) (k : Nat) (m long : Int) (torus : Bool) : List Int := if long = 1 then [] else d.taken k m (if torus then (d.at k).toNat else (long - 1).toNat)
set_option maxRecDepth 100000 in set_option maxHeartbeats 4000000 in
theorem ref05_Took0 (d : V3) (m long : Int) (torus : Bool) (w : World) (hd : d.may) (m0 : 0 ≤ m) (m1 : m < d.n) (l1 : 1 ≤ long) (l2 : long ≤ d.x) :
    Calls Tryz.prog 117 #[.agg #[.int .i64 d.x, .int .i64 d.y, .int .i64 d.z], .int .i64 0, .int .i64 m, .int .i64 long, .bool torus] w (RI w (d.tookV 0 m long torus)) := by
  have hdd := hd
  unfold V3.may at hdd
  by_cases h1 : long = 1
  · have HR := Lib.hid (show d.tookV 0 m long torus = [] from if_pos h1)
    have heq : (long == 1) = true := by simpa using h1
    clear h1
    (have HB := Lib.hid (show Below w.heap.size w (w.alloc (.cells #[.int .i64 d.x, .int .i64 d.y, .int .i64 d.z] 23)) by (repeat (first | (with_reducible exact Below.refl _ _) | (with_reducible assumption) | (with_reducible refine below_alloc ?_ _) | (with_reducible refine below_drewN ?_ _) | (with_reducible refine Below.drew ?_) | (with_reducible refine below_then ?_ (by with_reducible assumption)) | (with_reducible refine Below.setCell ?_ (by go_size) _)))); have BD := Lib.hid (Blk.new w 23 #[.int .i64 d.x, .int .i64 d.y, .int .i64 d.z]).dims)
    go_enter Tryz.func117, Tryz.ntmps117
    go_wp2_with fail
    go_returns
    exact ⟨_, rfl, by rw [HR.out]; exact World.ownsRow_nil _ _ _ _, HB.out⟩
  have heq : (long == 1) = false := by simpa using h1
  have mixed : Tryz.prog.follows .mixedOrders = true := by kernel_rfl
  cases torus with
  | true =>
    have HR := Lib.hid (show d.tookV 0 m long true = d.taken 0 m (d.x).toNat from if_neg h1)
    have HT := Lib.hid (fun W => by have := ref05_taken0 d m (d.x).toNat W hd m0 m1 (by omega); rw [show (((d.x).toNat : Nat) : Int) = d.x by omega] at this; exact this)
    clear h1 hd hdd m0 m1
    generalize d.taken 0 m (d.x).toNat = T at *
    (have HB := Lib.hid (show Below w.heap.size w (w.alloc (.cells #[.int .i64 d.x, .int .i64 d.y, .int .i64 d.z] 23)) by (repeat (first | (with_reducible exact Below.refl _ _) | (with_reducible assumption) | (with_reducible refine below_alloc ?_ _) | (with_reducible refine below_drewN ?_ _) | (with_reducible refine Below.drew ?_) | (with_reducible refine below_then ?_ (by with_reducible assumption)) | (with_reducible refine Below.setCell ?_ (by go_size) _)))); have BD := Lib.hid (Blk.new w 23 #[.int .i64 d.x, .int .i64 d.y, .int .i64 d.z]).dims)
    go_enter Tryz.func117, Tryz.ntmps117
    go_wp2_with fail
    obtain ⟨w1, hw1⟩ : ∃ w1, w1 = w.alloc (.cells #[.int .i64 d.x, .int .i64 d.y, .int .i64 d.z] 23) := ⟨_, rfl⟩
    rw [← hw1] at BD HB ⊢
    clear hw1
    have hlt := BD.out.lt
    obtain ⟨d0, d1, d2⟩ := BD.out
    go_region_held3 (fun W => W.cell? ⟨w.heap.size, 0, none⟩ = some (.int .i64 d.x) ∧ W.cell? ⟨w.heap.size, 1, none⟩ = some (.int .i64 d.y) ∧ W.cell? ⟨w.heap.size, 2, none⟩ = some (.int .i64 d.z)) (go_keep) ((first | (go_at_call 133; refine (HT.out _).mono ?_; rintro e wa ⟨v, rfl, ho, hba⟩; have HBa := Lib.hid (below_then (show Below w1.heap.size w1 _ by (repeat (first | (with_reducible exact Below.refl _ _) | (with_reducible assumption) | (with_reducible refine below_alloc ?_ _) | (with_reducible refine below_drewN ?_ _) | (with_reducible refine Below.drew ?_) | (with_reducible refine below_then ?_ (by with_reducible assumption)) | (with_reducible refine Below.setCell ?_ (by go_size) _)))) hba); have HO := Lib.hid (own_mono ho (show w1.heap.size ≤ _ by first | omega | (simp <;> omega))); clear hba ho; obtain ⟨d0', d1', d2'⟩ := BD.out.keep HBa.out BD.out.lt)))
    all_goals go_wp2_with fail
    all_goals go_returns
    all_goals exact ⟨_, rfl, by rw [HR.out]; exact own_mono HO.out HB.out.size, below_then HB.out HBa.out⟩
  | false =>
    have HR := Lib.hid (show d.tookV 0 m long false = d.taken 0 m (long - 1).toNat from if_neg h1)
    have HT := Lib.hid (fun W => by have := ref05_taken0 d m (long - 1).toNat W hd m0 m1 (by omega); rw [show (((long - 1).toNat : Nat) : Int) = long - 1 by omega] at this; exact this)
    clear h1 hd m0 m1
    generalize d.taken 0 m (long - 1).toNat = T at *
    (have HB := Lib.hid (show Below w.heap.size w (w.alloc (.cells #[.int .i64 d.x, .int .i64 d.y, .int .i64 d.z] 23)) by (repeat (first | (with_reducible exact Below.refl _ _) | (with_reducible assumption) | (with_reducible refine below_alloc ?_ _) | (with_reducible refine below_drewN ?_ _) | (with_reducible refine Below.drew ?_) | (with_reducible refine below_then ?_ (by with_reducible assumption)) | (with_reducible refine Below.setCell ?_ (by go_size) _)))); have BD := Lib.hid (Blk.new w 23 #[.int .i64 d.x, .int .i64 d.y, .int .i64 d.z]).dims)
    go_enter Tryz.func117, Tryz.ntmps117
    go_wp2_with fail
    refine (HT.out _).mono ?_
    rintro e wa ⟨v, rfl, ho, hba⟩
    have HO := Lib.hid (own_mono ho HB.out.size)
    have HB := Lib.hid (below_then HB.out hba)
    clear ho hba
    go_wp2_with fail
    go_returns
    exact ⟨_, rfl, by rw [HR.out]; exact HO.out, HB.out⟩
set_option maxRecDepth 100000 in set_option maxHeartbeats 4000000 in
theorem ref05_Took1 (d : V3) (m long : Int) (torus : Bool) (w : World) (hd : d.may) (m0 : 0 ≤ m) (m1 : m < d.n) (l1 : 1 ≤ long) (l2 : long ≤ d.y) :
    Calls Tryz.prog 117 #[.agg #[.int .i64 d.x, .int .i64 d.y, .int .i64 d.z], .int .i64 1, .int .i64 m, .int .i64 long, .bool torus] w (RI w (d.tookV 1 m long torus)) := by
  have hdd := hd
  unfold V3.may at hdd
  by_cases h1 : long = 1
  · have HR := Lib.hid (show d.tookV 1 m long torus = [] from if_pos h1)
    have heq : (long == 1) = true := by simpa using h1
    clear h1
    (have HB := Lib.hid (show Below w.heap.size w (w.alloc (.cells #[.int .i64 d.x, .int .i64 d.y, .int .i64 d.z] 23)) by (repeat (first | (with_reducible exact Below.refl _ _) | (with_reducible assumption) | (with_reducible refine below_alloc ?_ _) | (with_reducible refine below_drewN ?_ _) | (with_reducible refine Below.drew ?_) | (with_reducible refine below_then ?_ (by with_reducible assumption)) | (with_reducible refine Below.setCell ?_ (by go_size) _)))); have BD := Lib.hid (Blk.new w 23 #[.int .i64 d.x, .int .i64 d.y, .int .i64 d.z]).dims)
    go_enter Tryz.func117, Tryz.ntmps117
    go_wp2_with fail
    go_returns
    exact ⟨_, rfl, by rw [HR.out]; exact World.ownsRow_nil _ _ _ _, HB.out⟩
  have heq : (long == 1) = false := by simpa using h1
  have mixed : Tryz.prog.follows .mixedOrders = true := by kernel_rfl
  cases torus with
  | true =>
    have HR := Lib.hid (show d.tookV 1 m long true = d.taken 1 m (d.y).toNat from if_neg h1)
    have HT := Lib.hid (fun W => by have := ref05_taken1 d m (d.y).toNat W hd m0 m1 (by omega); rw [show (((d.y).toNat : Nat) : Int) = d.y by omega] at this; exact this)
    clear h1 hd hdd m0 m1
    generalize d.taken 1 m (d.y).toNat = T at *
    (have HB := Lib.hid (show Below w.heap.size w (w.alloc (.cells #[.int .i64 d.x, .int .i64 d.y, .int .i64 d.z] 23)) by (repeat (first | (with_reducible exact Below.refl _ _) | (with_reducible assumption) | (with_reducible refine below_alloc ?_ _) | (with_reducible refine below_drewN ?_ _) | (with_reducible refine Below.drew ?_) | (with_reducible refine below_then ?_ (by with_reducible assumption)) | (with_reducible refine Below.setCell ?_ (by go_size) _)))); have BD := Lib.hid (Blk.new w 23 #[.int .i64 d.x, .int .i64 d.y, .int .i64 d.z]).dims)
    go_enter Tryz.func117, Tryz.ntmps117
    go_wp2_with fail
    obtain ⟨w1, hw1⟩ : ∃ w1, w1 = w.alloc (.cells #[.int .i64 d.x, .int .i64 d.y, .int .i64 d.z] 23) := ⟨_, rfl⟩
    rw [← hw1] at BD HB ⊢
    clear hw1
    have hlt := BD.out.lt
    obtain ⟨d0, d1, d2⟩ := BD.out
    go_region_held3 (fun W => W.cell? ⟨w.heap.size, 0, none⟩ = some (.int .i64 d.x) ∧ W.cell? ⟨w.heap.size, 1, none⟩ = some (.int .i64 d.y) ∧ W.cell? ⟨w.heap.size, 2, none⟩ = some (.int .i64 d.z)) (go_keep) ((first | (go_at_call 133; refine (HT.out _).mono ?_; rintro e wa ⟨v, rfl, ho, hba⟩; have HBa := Lib.hid (below_then (show Below w1.heap.size w1 _ by (repeat (first | (with_reducible exact Below.refl _ _) | (with_reducible assumption) | (with_reducible refine below_alloc ?_ _) | (with_reducible refine below_drewN ?_ _) | (with_reducible refine Below.drew ?_) | (with_reducible refine below_then ?_ (by with_reducible assumption)) | (with_reducible refine Below.setCell ?_ (by go_size) _)))) hba); have HO := Lib.hid (own_mono ho (show w1.heap.size ≤ _ by first | omega | (simp <;> omega))); clear hba ho; obtain ⟨d0', d1', d2'⟩ := BD.out.keep HBa.out BD.out.lt)))
    all_goals go_wp2_with fail
    all_goals go_returns
    all_goals exact ⟨_, rfl, by rw [HR.out]; exact own_mono HO.out HB.out.size, below_then HB.out HBa.out⟩
  | false =>
    have HR := Lib.hid (show d.tookV 1 m long false = d.taken 1 m (long - 1).toNat from if_neg h1)
    have HT := Lib.hid (fun W => by have := ref05_taken1 d m (long - 1).toNat W hd m0 m1 (by omega); rw [show (((long - 1).toNat : Nat) : Int) = long - 1 by omega] at this; exact this)
    clear h1 hd m0 m1
    generalize d.taken 1 m (long - 1).toNat = T at *
    (have HB := Lib.hid (show Below w.heap.size w (w.alloc (.cells #[.int .i64 d.x, .int .i64 d.y, .int .i64 d.z] 23)) by (repeat (first | (with_reducible exact Below.refl _ _) | (with_reducible assumption) | (with_reducible refine below_alloc ?_ _) | (with_reducible refine below_drewN ?_ _) | (with_reducible refine Below.drew ?_) | (with_reducible refine below_then ?_ (by with_reducible assumption)) | (with_reducible refine Below.setCell ?_ (by go_size) _)))); have BD := Lib.hid (Blk.new w 23 #[.int .i64 d.x, .int .i64 d.y, .int .i64 d.z]).dims)
    go_enter Tryz.func117, Tryz.ntmps117
    go_wp2_with fail
    refine (HT.out _).mono ?_
    rintro e wa ⟨v, rfl, ho, hba⟩
    have HO := Lib.hid (own_mono ho HB.out.size)
    have HB := Lib.hid (below_then HB.out hba)
    clear ho hba
    go_wp2_with fail
    go_returns
    exact ⟨_, rfl, by rw [HR.out]; exact HO.out, HB.out⟩
set_option maxRecDepth 100000 in set_option maxHeartbeats 4000000 in
theorem ref05_Took2 (d : V3) (m long : Int) (torus : Bool) (w : World) (hd : d.may) (m0 : 0 ≤ m) (m1 : m < d.n) (l1 : 1 ≤ long) (l2 : long ≤ d.z) :
    Calls Tryz.prog 117 #[.agg #[.int .i64 d.x, .int .i64 d.y, .int .i64 d.z], .int .i64 2, .int .i64 m, .int .i64 long, .bool torus] w (RI w (d.tookV 2 m long torus)) := by
  have hdd := hd
  unfold V3.may at hdd
  by_cases h1 : long = 1
  · have HR := Lib.hid (show d.tookV 2 m long torus = [] from if_pos h1)
    have heq : (long == 1) = true := by simpa using h1
    clear h1
    (have HB := Lib.hid (show Below w.heap.size w (w.alloc (.cells #[.int .i64 d.x, .int .i64 d.y, .int .i64 d.z] 23)) by (repeat (first | (with_reducible exact Below.refl _ _) | (with_reducible assumption) | (with_reducible refine below_alloc ?_ _) | (with_reducible refine below_drewN ?_ _) | (with_reducible refine Below.drew ?_) | (with_reducible refine below_then ?_ (by with_reducible assumption)) | (with_reducible refine Below.setCell ?_ (by go_size) _)))); have BD := Lib.hid (Blk.new w 23 #[.int .i64 d.x, .int .i64 d.y, .int .i64 d.z]).dims)
    go_enter Tryz.func117, Tryz.ntmps117
    go_wp2_with fail
    go_returns
    exact ⟨_, rfl, by rw [HR.out]; exact World.ownsRow_nil _ _ _ _, HB.out⟩
  have heq : (long == 1) = false := by simpa using h1
  have mixed : Tryz.prog.follows .mixedOrders = true := by kernel_rfl
  cases torus with
  | true =>
    have HR := Lib.hid (show d.tookV 2 m long true = d.taken 2 m (d.z).toNat from if_neg h1)
    have HT := Lib.hid (fun W => by have := ref05_taken2 d m (d.z).toNat W hd m0 m1 (by omega); rw [show (((d.z).toNat : Nat) : Int) = d.z by omega] at this; exact this)
    clear h1 hd hdd m0 m1
    generalize d.taken 2 m (d.z).toNat = T at *
    (have HB := Lib.hid (show Below w.heap.size w (w.alloc (.cells #[.int .i64 d.x, .int .i64 d.y, .int .i64 d.z] 23)) by (repeat (first | (with_reducible exact Below.refl _ _) | (with_reducible assumption) | (with_reducible refine below_alloc ?_ _) | (with_reducible refine below_drewN ?_ _) | (with_reducible refine Below.drew ?_) | (with_reducible refine below_then ?_ (by with_reducible assumption)) | (with_reducible refine Below.setCell ?_ (by go_size) _)))); have BD := Lib.hid (Blk.new w 23 #[.int .i64 d.x, .int .i64 d.y, .int .i64 d.z]).dims)
    go_enter Tryz.func117, Tryz.ntmps117
    go_wp2_with fail
    obtain ⟨w1, hw1⟩ : ∃ w1, w1 = w.alloc (.cells #[.int .i64 d.x, .int .i64 d.y, .int .i64 d.z] 23) := ⟨_, rfl⟩
    rw [← hw1] at BD HB ⊢
    clear hw1
    have hlt := BD.out.lt
    obtain ⟨d0, d1, d2⟩ := BD.out
    go_region_held3 (fun W => W.cell? ⟨w.heap.size, 0, none⟩ = some (.int .i64 d.x) ∧ W.cell? ⟨w.heap.size, 1, none⟩ = some (.int .i64 d.y) ∧ W.cell? ⟨w.heap.size, 2, none⟩ = some (.int .i64 d.z)) (go_keep) ((first | (go_at_call 133; refine (HT.out _).mono ?_; rintro e wa ⟨v, rfl, ho, hba⟩; have HBa := Lib.hid (below_then (show Below w1.heap.size w1 _ by (repeat (first | (with_reducible exact Below.refl _ _) | (with_reducible assumption) | (with_reducible refine below_alloc ?_ _) | (with_reducible refine below_drewN ?_ _) | (with_reducible refine Below.drew ?_) | (with_reducible refine below_then ?_ (by with_reducible assumption)) | (with_reducible refine Below.setCell ?_ (by go_size) _)))) hba); have HO := Lib.hid (own_mono ho (show w1.heap.size ≤ _ by first | omega | (simp <;> omega))); clear hba ho; obtain ⟨d0', d1', d2'⟩ := BD.out.keep HBa.out BD.out.lt)))
    all_goals go_wp2_with fail
    all_goals go_returns
    all_goals exact ⟨_, rfl, by rw [HR.out]; exact own_mono HO.out HB.out.size, below_then HB.out HBa.out⟩
  | false =>
    have HR := Lib.hid (show d.tookV 2 m long false = d.taken 2 m (long - 1).toNat from if_neg h1)
    have HT := Lib.hid (fun W => by have := ref05_taken2 d m (long - 1).toNat W hd m0 m1 (by omega); rw [show (((long - 1).toNat : Nat) : Int) = long - 1 by omega] at this; exact this)
    clear h1 hd m0 m1
    generalize d.taken 2 m (long - 1).toNat = T at *
    (have HB := Lib.hid (show Below w.heap.size w (w.alloc (.cells #[.int .i64 d.x, .int .i64 d.y, .int .i64 d.z] 23)) by (repeat (first | (with_reducible exact Below.refl _ _) | (with_reducible assumption) | (with_reducible refine below_alloc ?_ _) | (with_reducible refine below_drewN ?_ _) | (with_reducible refine Below.drew ?_) | (with_reducible refine below_then ?_ (by with_reducible assumption)) | (with_reducible refine Below.setCell ?_ (by go_size) _)))); have BD := Lib.hid (Blk.new w 23 #[.int .i64 d.x, .int .i64 d.y, .int .i64 d.z]).dims)
    go_enter Tryz.func117, Tryz.ntmps117
    go_wp2_with fail
    refine (HT.out _).mono ?_
    rintro e wa ⟨v, rfl, ho, hba⟩
    have HO := Lib.hid (own_mono ho HB.out.size)
    have HB := Lib.hid (below_then HB.out hba)
    clear ho hba
    go_wp2_with fail
    go_returns
    exact ⟨_, rfl, by rw [HR.out]; exact HO.out, HB.out⟩
theorem V3.line_taken {d : V3} {k : Nat} {m : Int} (hk : k < 3) (h : d.askE k m = 0) : d.taken k m (d.at k).toNat = d.lineV k m := by
  obtain ⟨hd, _, m0, m1⟩ := V3.askE_0 h
  have hdd : 1 ≤ d.at k ∧ d.at k ≤ 16 := by
    unfold V3.may at hd
    match k, hk with
    | 0, _ => exact hd.1
    | 1, _ => exact hd.2.1
    | 2, _ => exact hd.2.2
  have hn : ((k : Int)).toNat = k := by omega
  unfold V3.taken V3.lineV
  rw [hn]
  by_cases h1 : d.at k = 1
  · rw [if_pos (by omega), if_neg (fun h2 => h2.2 h1)]
  · rw [if_neg (by omega), if_pos ⟨h, h1⟩, V3.links_taken hd m0 m1 hk (by omega)]
theorem V3.run_took {d : V3} {k : Nat} {m long : Int} (torus : Bool) (hk : k < 3) (h : d.askE k m = 0) (hl : 1 ≤ long ∧ long ≤ d.at k) : d.tookV k m long torus = d.runV k m long torus := by
  obtain ⟨hd, _, m0, m1⟩ := V3.askE_0 h
  have hn : ((k : Int)).toNat = k := by omega
  have hE : d.runE k m long = 0 := by rw [V3.runE, if_pos h, hn, if_pos hl]
  by_cases h1 : long = 1
  · rw [show d.tookV k m long torus = [] from if_pos h1, show d.runV k m long torus = [] from if_neg (by omega)]
  · have e1 : d.tookV k m long torus = d.taken k m (if torus then (d.at k).toNat else (long - 1).toNat) := if_neg h1
    have e2 : d.runV k m long torus = sorted (d.links ((k : Int)).toNat m (if torus then (d.at ((k : Int)).toNat).toNat else (long - 1).toNat)) := if_pos ⟨hE, by omega⟩
    have e3 : (((if torus then (d.at k).toNat else (long - 1).toNat) : Nat) : Int) ≤ d.at k := by cases torus <;> simp <;> omega
    rw [hn] at e2
    rw [e1, e2, V3.links_taken hd m0 m1 hk e3]
    exact if_neg (by omega)
end
end
end Go.Proofs.YtofoenlhbmammaaGreat
