/- REF: some steps on, and one back. -/
import Derived.Test.YtofoenlhbmammaaGreatQ6FreeTells
namespace Go.Proofs.YtofoenlhbmammaaGreat

section
open Go.RowKit Go.Shelf
set_option maxRecDepth 100000 in set_option maxHeartbeats 4000000 in
theorem ref01_On2 (d p : V3) (m b q1 q2 r : Int) (w : World)
    (HO : RowKit.Hid (∀ W, Calls Tryz.prog 116 #[.agg #[.int .i64 d.x, .int .i64 d.y, .int .i64 d.z], .int .i64 m] W (RB W (.agg #[.int .i64 p.x, .int .i64 p.y, .int .i64 p.z]))))
    (HA : RowKit.Hid (∀ W, Calls Tryz.prog 161 #[.agg #[.int .i64 d.x, .int .i64 d.y, .int .i64 d.z], .agg #[.int .i64 p.x, .int .i64 p.y, .int .i64 q2]] W (RB W (.int .i64 r))))
    (HR1 : RowKit.Hid (∀ W, Calls Tryz.prog 160 #[.int .i64 b, .int .i64 d.z] W fun e w' => e = .returned (.int .i64 q1) ∧ w' = W))
    (HR2 : RowKit.Hid (∀ W, Calls Tryz.prog 160 #[.int .i64 (IntKind.i64.wrap (p.z + q1)), .int .i64 d.z] W fun e w' => e = .returned (.int .i64 q2) ∧ w' = W)) :
    Calls Tryz.prog 158 #[.agg #[.int .i64 d.x, .int .i64 d.y, .int .i64 d.z], .int .i64 m, .int .i64 2, .int .i64 b] w (RB w (.int .i64 r)) := by
  go_enter Tryz.func158, Tryz.ntmps158
  go_wp2_with fail
  refine (HO.out _).mono ?_
  rintro e w1 ⟨rfl, hb1⟩
  have BD := Lib.hid (((Blk.new w 23 #[.int .i64 d.x, .int .i64 d.y, .int .i64 d.z]).below hb1).dims)
  have HB := Lib.hid (below_then (show Below w.heap.size w (w.alloc (.cells #[.int .i64 d.x, .int .i64 d.y, .int .i64 d.z] 23)) by (repeat (first | (with_reducible exact Below.refl _ _) | (with_reducible assumption) | (with_reducible refine below_alloc ?_ _) | (with_reducible refine below_drewN ?_ _) | (with_reducible refine Below.drew ?_) | (with_reducible refine below_then ?_ (by with_reducible assumption)) | (with_reducible refine Below.setCell ?_ (by go_size) _)))) hb1)
  have hlt := BD.out.lt
  obtain ⟨d0, d1, d2⟩ := BD.out
  clear hb1 HO BD
  go_wp2_with fail
  go_region_with (first | ((with_reducible refine (HR1.out _).mono ?_); rintro e w3 ⟨rfl, hw3⟩; have hw3 := hw3.symm; subst hw3) | ((with_reducible refine (HR2.out _).mono ?_); rintro e w3 ⟨rfl, hw3⟩; have hw3 := hw3.symm; subst hw3))
  all_goals
    go_wp2_with fail
    refine (HA.out _).mono ?_
    rintro e w2 ⟨rfl, hb2⟩
    have hBB := below_then (below_then HB.out (show Below w1.heap.size w1 _ by (repeat (first | (with_reducible exact Below.refl _ _) | (with_reducible assumption) | (with_reducible refine below_alloc ?_ _) | (with_reducible refine below_drewN ?_ _) | (with_reducible refine Below.drew ?_) | (with_reducible refine below_then ?_ (by with_reducible assumption)) | (with_reducible refine Below.setCell ?_ (by go_size) _))))) hb2
    go_wp2_with fail
    go_returns
    exact ⟨rfl, hBB⟩
end

section
open Go.RowKit Go.Shelf
set_option maxRecDepth 100000 in set_option maxHeartbeats 4000000 in
theorem ref01_On1 (d p : V3) (m b q1 q2 r : Int) (w : World)
    (HO : RowKit.Hid (∀ W, Calls Tryz.prog 116 #[.agg #[.int .i64 d.x, .int .i64 d.y, .int .i64 d.z], .int .i64 m] W (RB W (.agg #[.int .i64 p.x, .int .i64 p.y, .int .i64 p.z]))))
    (HA : RowKit.Hid (∀ W, Calls Tryz.prog 161 #[.agg #[.int .i64 d.x, .int .i64 d.y, .int .i64 d.z], .agg #[.int .i64 p.x, .int .i64 q2, .int .i64 p.z]] W (RB W (.int .i64 r))))
    (HR1 : RowKit.Hid (∀ W, Calls Tryz.prog 160 #[.int .i64 b, .int .i64 d.y] W fun e w' => e = .returned (.int .i64 q1) ∧ w' = W))
    (HR2 : RowKit.Hid (∀ W, Calls Tryz.prog 160 #[.int .i64 (IntKind.i64.wrap (p.y + q1)), .int .i64 d.y] W fun e w' => e = .returned (.int .i64 q2) ∧ w' = W)) :
    Calls Tryz.prog 158 #[.agg #[.int .i64 d.x, .int .i64 d.y, .int .i64 d.z], .int .i64 m, .int .i64 1, .int .i64 b] w (RB w (.int .i64 r)) := by
  go_enter Tryz.func158, Tryz.ntmps158
  go_wp2_with fail
  refine (HO.out _).mono ?_
  rintro e w1 ⟨rfl, hb1⟩
  have BD := Lib.hid (((Blk.new w 23 #[.int .i64 d.x, .int .i64 d.y, .int .i64 d.z]).below hb1).dims)
  have HB := Lib.hid (below_then (show Below w.heap.size w (w.alloc (.cells #[.int .i64 d.x, .int .i64 d.y, .int .i64 d.z] 23)) by (repeat (first | (with_reducible exact Below.refl _ _) | (with_reducible assumption) | (with_reducible refine below_alloc ?_ _) | (with_reducible refine below_drewN ?_ _) | (with_reducible refine Below.drew ?_) | (with_reducible refine below_then ?_ (by with_reducible assumption)) | (with_reducible refine Below.setCell ?_ (by go_size) _)))) hb1)
  have hlt := BD.out.lt
  obtain ⟨d0, d1, d2⟩ := BD.out
  clear hb1 HO BD
  go_wp2_with fail
  go_region_with (first | ((with_reducible refine (HR1.out _).mono ?_); rintro e w3 ⟨rfl, hw3⟩; have hw3 := hw3.symm; subst hw3) | ((with_reducible refine (HR2.out _).mono ?_); rintro e w3 ⟨rfl, hw3⟩; have hw3 := hw3.symm; subst hw3))
  all_goals
    go_wp2_with fail
    refine (HA.out _).mono ?_
    rintro e w2 ⟨rfl, hb2⟩
    have hBB := below_then (below_then HB.out (show Below w1.heap.size w1 _ by (repeat (first | (with_reducible exact Below.refl _ _) | (with_reducible assumption) | (with_reducible refine below_alloc ?_ _) | (with_reducible refine below_drewN ?_ _) | (with_reducible refine Below.drew ?_) | (with_reducible refine below_then ?_ (by with_reducible assumption)) | (with_reducible refine Below.setCell ?_ (by go_size) _))))) hb2
    go_wp2_with fail
    go_returns
    exact ⟨rfl, hBB⟩
end

section
open Go.RowKit Go.Shelf
theorem round_on {p b n : Int} (hb : 0 ≤ b) (hb9 : b ≤ 1000) (hn : 1 ≤ n ∧ n ≤ 16) (px : 0 ≤ p ∧ p < n) :
    (∀ W, Calls Tryz.prog 160 #[.int .i64 b, .int .i64 n] W fun e w' => e = .returned (.int .i64 (b % n)) ∧ w' = W) ∧
    (∀ W, Calls Tryz.prog 160 #[.int .i64 (IntKind.i64.wrap (p + b % n)), .int .i64 n] W fun e w' => e = .returned (.int .i64 ((p + b) % n)) ∧ w' = W) := by
  have h2 : 0 ≤ b % n ∧ b % n < n := ⟨Int.emod_nonneg _ (by omega), Int.emod_lt_of_pos _ (by omega)⟩
  refine ⟨fun W => ref01_Round b n W hb (by omega) hn.1 (by omega), fun W => ?_⟩
  have := ref01_Round (p + b % n) n W (by omega) (by omega) hn.1 (by omega)
  rw [Int.add_emod_emod, ← IntWalk.i64_in (p + b % n) (by omega)] at this
  exact this
theorem round_back {p n : Int} (hn : 1 ≤ n ∧ n ≤ 16) (px : 0 ≤ p ∧ p < n) :
    (∀ W, Calls Tryz.prog 160 #[.int .i64 (-1), .int .i64 n] W fun e w' => e = .returned (.int .i64 (n - 1)) ∧ w' = W) ∧
    (∀ W, Calls Tryz.prog 160 #[.int .i64 (IntKind.i64.wrap (p + (n - 1))), .int .i64 n] W fun e w' => e = .returned (.int .i64 ((p + -1) % n)) ∧ w' = W) := by
  refine ⟨fun W => ref01_RoundM n W hn.1 (by omega), fun W => ?_⟩
  have := ref01_Round (p + (n - 1)) n W (by omega) (by omega) hn.1 (by omega)
  rw [show (p + (n - 1)) % n = (p + -1) % n by rw [show p + (n - 1) = p + -1 + n by omega, Int.add_emod_right], ← IntWalk.i64_in (p + (n - 1)) (by omega)] at this
  exact this
theorem ref01_OnG (d : V3) (m : Int) (k : Nat) (b : Int) (w : World) (hd : d.may) (h0 : 0 ≤ m) (h1 : m < d.n) (hk : k < 3) (hb : (0 ≤ b ∧ b ≤ 1000) ∨ b = -1) :
    Calls Tryz.prog 158 #[.agg #[.int .i64 d.x, .int .i64 d.y, .int .i64 d.z], .int .i64 m, .int .i64 k, .int .i64 b] w (RB w (.int .i64 (d.step m k b))) := by
  have hn := V3.n_le hd
  have HO := Lib.hid (fun W => ref01_Where d m W hd h0 (by omega))
  have HA := fun W => ref01_Number d (d.stepped m k b) W hd (V3.stepped_inside hd h0 h1 hk b)
  obtain ⟨px, py, pz⟩ := V3.pos_inside hd h0 h1
  obtain ⟨hx, hy, hz⟩ := hd
  have key : ∀ n p : Int, (1 ≤ n ∧ n ≤ 16) → (0 ≤ p ∧ p < n) → ∃ q,
      (∀ W, Calls Tryz.prog 160 #[.int .i64 b, .int .i64 n] W fun e w' => e = .returned (.int .i64 q) ∧ w' = W) ∧
      (∀ W, Calls Tryz.prog 160 #[.int .i64 (IntKind.i64.wrap (p + q)), .int .i64 n] W fun e w' => e = .returned (.int .i64 ((p + b) % n)) ∧ w' = W) := fun n p hn hp => by
    rcases hb with hb | rfl
    · exact ⟨_, round_on hb.1 hb.2 hn hp⟩
    · exact ⟨_, round_back hn hp⟩
  match k, hk with
  | 0, _ =>
    obtain ⟨q, h1, h2⟩ := key _ _ hx px
    exact ref01_On0 d (d.pos m) m b q _ _ w HO (Lib.hid HA) (Lib.hid h1) (Lib.hid h2)
  | 1, _ =>
    obtain ⟨q, h1, h2⟩ := key _ _ hy py
    exact ref01_On1 d (d.pos m) m b q _ _ w HO (Lib.hid HA) (Lib.hid h1) (Lib.hid h2)
  | 2, _ =>
    obtain ⟨q, h1, h2⟩ := key _ _ hz pz
    exact ref01_On2 d (d.pos m) m b q _ _ w HO (Lib.hid HA) (Lib.hid h1) (Lib.hid h2)
theorem ref01_On (d : V3) (m : Int) (k : Nat) (b : Int) (w : World) (hd : d.may) (h0 : 0 ≤ m) (h1 : m < d.n) (hk : k < 3) (hb : 0 ≤ b) (hb9 : b ≤ 1000) :
    Calls Tryz.prog 158 #[.agg #[.int .i64 d.x, .int .i64 d.y, .int .i64 d.z], .int .i64 m, .int .i64 k, .int .i64 b] w (RB w (.int .i64 (d.step m k b))) := ref01_OnG d m k b w hd h0 h1 hk (.inl ⟨hb, hb9⟩)
theorem ref01_OnM (d : V3) (m : Int) (k : Nat) (w : World) (hd : d.may) (h0 : 0 ≤ m) (h1 : m < d.n) (hk : k < 3) :
    Calls Tryz.prog 158 #[.agg #[.int .i64 d.x, .int .i64 d.y, .int .i64 d.z], .int .i64 m, .int .i64 k, .int .i64 (-1)] w (RB w (.int .i64 (d.step m k (-1)))) := ref01_OnG d m k (-1) w hd h0 h1 hk (.inr rfl)
end
end Go.Proofs.YtofoenlhbmammaaGreat
