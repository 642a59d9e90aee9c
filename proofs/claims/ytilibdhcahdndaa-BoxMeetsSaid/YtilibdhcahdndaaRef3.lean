/- REF: whether two boxes meet, whether one lies in the other. -/
import Derived.Test.YtilibdhcahdndaaProg
import Derived.Test.YtilibdhcahdndaaRef2
namespace Go.Proofs.Ytilibdhcahdndaa
open Go.RowKit Go.Shelf

theorem Bx.mem_all {d : V3} {b : Bx} {m : Int} : m ∈ b.all d ↔ (0 ≤ m ∧ m < d.n) ∧ b.has d m = true := by
  simp only [Bx.all, Bx.upto, List.mem_filter, List.mem_map, List.mem_range]
  constructor
  · rintro ⟨⟨a, ha, rfl⟩, h⟩
    exact ⟨⟨by omega, by omega⟩, h⟩
  · rintro ⟨⟨h0, h1⟩, h⟩
    exact ⟨⟨m.toNat, by omega, by omega⟩, h⟩

/-- A test of a list's first numbers. -/
def anyTo (q : Int → Bool) (l : List Int) (k : Nat) : Bool := (l.take k).any q
theorem anyTo_zero (q : Int → Bool) (l : List Int) : anyTo q l 0 = false := by simp [anyTo]
theorem anyTo_succ (q : Int → Bool) (l : List Int) (k : Nat) (h : k < l.length) : anyTo q l (k + 1) = (anyTo q l k || q l[k]) := by
  unfold anyTo; rw [List.take_succ_eq_append_getElem h, List.any_append]; simp
theorem anyTo_all (q : Int → Bool) (l : List Int) : anyTo q l l.length = l.any q := by simp [anyTo]
theorem any_of_anyTo (q : Int → Bool) (l : List Int) (k : Nat) (h : k < l.length) (hq : q l[k] = true) : l.any q = true := by
  rw [List.any_eq_true]; exact ⟨_, List.getElem_mem h, hq⟩

def refMeet (d : V3) (a b : Bx) : Bool := decide (chk2 d a b = 0) && (a.all d).any (b.has d)
def refWithin (d : V3) (a b : Bx) : Bool := decide (chk2 d a b = 0) && !(a.all d).any (fun m => !b.has d m)
theorem refMeet_ok {d : V3} {a b : Bx} (h : chk2 d a b = 0) : refMeet d a b = (a.all d).any (b.has d) := by simp [refMeet, h]
theorem refMeet_no {d : V3} {a b : Bx} (h : ¬ chk2 d a b = 0) : refMeet d a b = false := by simp [refMeet, h]

theorem chk2_0' {d : V3} {a b : Bx} (h : chk2 d a b = 0) : d.may ∧ a.may d ∧ b.may d := by
  unfold chk2 okIf at h
  by_cases hd : d.may
  · rw [if_pos hd] at h
    by_cases hab : a.may d ∧ b.may d
    · exact ⟨hd, hab⟩
    · rw [if_neg hab] at h; omega
  · rw [if_neg hd] at h; omega

set_option maxRecDepth 100000 in set_option maxHeartbeats 4000000 in
theorem ref02_Meet (d : V3) (a b : Bx) (w : World) : Calls Try.prog 22 #[.agg #[.int .i64 d.x, .int .i64 d.y, .int .i64 d.z], .agg #[.int .i64 a.b.x, .int .i64 a.b.y, .int .i64 a.b.z, .int .i64 a.s.x, .int .i64 a.s.y, .int .i64 a.s.z], .agg #[.int .i64 b.b.x, .int .i64 b.b.y, .int .i64 b.b.z, .int .i64 b.s.x, .int .i64 b.s.y, .int .i64 b.s.z]] w (RB w (.tuple #[.bool (refMeet d a b), .int .i64 (chk2 d a b)])) := by
  by_cases h : chk2 d a b = 0
  · have hq := Lib.hid (refMeet_ok h)
    have hh := Lib.hid h
    obtain ⟨hd, ha, hb⟩ := chk2_0' h
    have hn := V3.n_le hd
    have HD := Lib.hid hd
    have HA := Lib.hid ha
    have HB := Lib.hid hb
    clear hd ha hb
    go_enter Try.func22, Try.ntmps22
    go_wp2_with fail
    refine (ref02_both d a b _).mono ?_
    rintro e w1 ⟨rfl, hb1⟩
    (obtain ⟨hc1, hf1⟩ := bcell hb1; have hz1 := hb1.size; (try simp at hz1); have hB : Below w.heap.size w w1 := (by (repeat (first | (with_reducible exact Below.refl _ _) | (with_reducible assumption) | (with_reducible refine below_alloc ?_ _) | (with_reducible refine below_drewN ?_ _) | (with_reducible refine Below.drew ?_) | (with_reducible refine below_then ?_ (by with_reducible assumption)) | (with_reducible refine Below.setCell ?_ (by go_size) _)))); obtain ⟨hcB, hfB⟩ := bcell hB; (try have z0 : w.heap.size < w1.heap.size := by omega); (try have z1 : w.heap.size + 1 < w1.heap.size := by omega); (try have z2 : w.heap.size + 2 < w1.heap.size := by omega); (try have z3 : w.heap.size + 3 < w1.heap.size := by omega))
    go_wp2_with fail
    refine (ref02_All d a _ HD.out HA.out).mono ?_
    rintro e w2 ⟨v, rfl, ho2, hb2⟩
    obtain ⟨base, cap, rfl, hrd, hcap⟩ := own_rd ho2
    clear ho2
    have hb12 := below_then hb1 hb2
    have hB2 : Below w.heap.size w w2 := by (repeat (first | (with_reducible exact Below.refl _ _) | (with_reducible assumption) | (with_reducible refine below_alloc ?_ _) | (with_reducible refine below_drewN ?_ _) | (with_reducible refine Below.drew ?_) | (with_reducible refine below_then ?_ (by with_reducible assumption)) | (with_reducible refine Below.setCell ?_ (by go_size) _)))
    obtain ⟨hc2, hf2⟩ := bcell hb12
    have hz2 := hb12.size
    simp at hz2
    have D2 : DimsAt w2 w.heap.size d := by constructor <;> (rw [hc2 _ _ (by simp [go_sem])]; simp [go_sem])
    have B2 : BxAt w2 (w.heap.size + 1 + 1) b := by constructor <;> (rw [hc2 _ _ (by simp [go_sem])]; simp [go_sem])
    have hmem : ∀ m ∈ a.all d, 0 ≤ m ∧ m ≤ 1000000 := fun m hm => by have := (Bx.mem_all.1 hm).1; omega
    have hlen : (a.all d).length ≤ 4096 := by have := Bx.upto_len d a d.n.toNat; unfold Bx.all; omega
    obtain ⟨l, hl⟩ : ∃ l, l = a.all d := ⟨_, rfl⟩
    rw [← hl] at hrd hq hmem hlen
    go_wp2_with fail
    rw [← hl]
    clear hc2 hf2 hc1 hf1 hcB hfB hb12 hb1 hb2 hB hl
    go_loopw [10] (fun i wr => ∃ k : Nat, k ≤ l.length ∧ i = .int .i64 k ∧ anyTo (b.has d) l k = false ∧ Below w2.heap.size w2 wr) (fun i _ => l.length - (intOf i).toNat)
    case atStart => exact ⟨0, by omega, rfl, anyTo_zero _ _, Below.refl _ _⟩
    case round =>
      obtain ⟨k, hk, rfl, hany, hbw⟩ := hrel
      obtain ⟨d0, d1, d2⟩ := D2.keep hbw D2.lt
      obtain ⟨b0, b1, b2, b3, b4, b5⟩ := B2.keep hbw B2.lt
      have hBw := hB2.trans (hbw.mono hB2.size)
      have hzw := hbw.size
      have t0 : w.heap.size < wr.heap.size := by omega
      have t1 : w.heap.size + 1 + 1 < wr.heap.size := by omega
      have HAny := Lib.hid hany
      have HMem := Lib.hid hmem
      clear hany hmem
      by_cases hlt : k < l.length
      · obtain ⟨g, off, rfl, hcell⟩ := hrd.keep hbw k _ (getElem?_map_int hlt)
        have hx := HMem.out l[k] (List.getElem_mem hlt)
        have hs := Lib.hid (anyTo_succ (b.has d) l k hlt)
        have hy := Lib.hid (any_of_anyTo (b.has d) l k hlt)
        obtain ⟨x, hxx⟩ : ∃ x, x = l[k] := ⟨_, rfl⟩
        rw [← hxx] at hx hs hy hcell
        have hg := World.block_lt_of_cell? wr _ hcell
        simp only [] at hg
        clear hxx
        cases hv : b.has d x with
        | true =>
          go_wp2_with (refine wp_region_aft (by kernel_rfl) (by kernel_rfl) ?_; (repeat (any_goals (first | go_big_quiet_step ((go_at_call 56; refine Calls.aft_of (Calls.rb_eq (ref02_In d b x _ HD.out HB.out (by omega) (by omega)) (v' := .bool true) (by rw [hv])))) | quiet_step ((go_at_call 56; refine Calls.aft_of (Calls.rb_eq (ref02_In d b x _ HD.out HB.out (by omega) (by omega)) (v' := .bool true) (by rw [hv])))) | (refine wpQuiet_step (fun K hK => ?_); go_simp; split <;> (refine hK _ ?_; clear hK K))))); all_goals (refine wpQuiet_nil ?_; intro w1 hw'; obtain ⟨x1, hx1⟩ := hw'; have hb1 := x1.h; rw [← hx1] at hb1; clear hx1 x1; (obtain ⟨hc1, hf1⟩ := bcell hb1; have hz1 := hb1.size; (try simp at hz1); have hB : Below w.heap.size w w1 := (by (repeat (first | (with_reducible exact Below.refl _ _) | (with_reducible assumption) | (with_reducible refine below_alloc ?_ _) | (with_reducible refine below_drewN ?_ _) | (with_reducible refine Below.drew ?_) | (with_reducible refine below_then ?_ (by with_reducible assumption)) | (with_reducible refine Below.setCell ?_ (by go_size) _)))); obtain ⟨hcB, hfB⟩ := bcell hB; (try have z0 : w.heap.size < w1.heap.size := by omega); (try have z1 : w.heap.size + 1 < w1.heap.size := by omega); (try have z2 : w.heap.size + 2 < w1.heap.size := by omega); (try have z3 : w.heap.size + 3 < w1.heap.size := by omega))))
          go_returns
          exact ⟨by rw [hq.out, hy.out (by simp [hv]), hh.out]; rfl, by (repeat (first | (with_reducible exact Below.refl _ _) | (with_reducible assumption) | (with_reducible refine below_alloc ?_ _) | (with_reducible refine below_drewN ?_ _) | (with_reducible refine Below.drew ?_) | (with_reducible refine below_then ?_ (by with_reducible assumption)) | (with_reducible refine Below.setCell ?_ (by go_size) _)))⟩
        | false =>
          have hN := Lib.hid (hs.out.trans (by rw [HAny.out]; simp [hv] : _ = false))
          go_wp2_with (refine wp_region_aft (by kernel_rfl) (by kernel_rfl) ?_; (repeat (any_goals (first | go_big_quiet_step ((go_at_call 56; refine Calls.aft_of (Calls.rb_eq (ref02_In d b x _ HD.out HB.out (by omega) (by omega)) (v' := .bool false) (by rw [hv])))) | quiet_step ((go_at_call 56; refine Calls.aft_of (Calls.rb_eq (ref02_In d b x _ HD.out HB.out (by omega) (by omega)) (v' := .bool false) (by rw [hv])))) | (refine wpQuiet_step (fun K hK => ?_); go_simp; split <;> (refine hK _ ?_; clear hK K))))); all_goals (refine wpQuiet_nil ?_; intro w1 hw'; obtain ⟨x1, hx1⟩ := hw'; have hb1 := x1.h; rw [← hx1] at hb1; clear hx1 x1; (obtain ⟨hc1, hf1⟩ := bcell hb1; have hz1 := hb1.size; (try simp at hz1); have hB : Below w.heap.size w w1 := (by (repeat (first | (with_reducible exact Below.refl _ _) | (with_reducible assumption) | (with_reducible refine below_alloc ?_ _) | (with_reducible refine below_drewN ?_ _) | (with_reducible refine Below.drew ?_) | (with_reducible refine below_then ?_ (by with_reducible assumption)) | (with_reducible refine Below.setCell ?_ (by go_size) _)))); obtain ⟨hcB, hfB⟩ := bcell hB; (try have z0 : w.heap.size < w1.heap.size := by omega); (try have z1 : w.heap.size + 1 < w1.heap.size := by omega); (try have z2 : w.heap.size + 2 < w1.heap.size := by omega); (try have z3 : w.heap.size + 3 < w1.heap.size := by omega))))
          go_roundw
          case rel => exact ⟨k + 1, by omega, by go_num, hN.out, below_then hbw (by assumption)⟩
          case measure => simp [intOf]; omega
      · obtain rfl : k = l.length := by omega
        have hE := Lib.hid ((anyTo_all (b.has d) l).symm.trans HAny.out)
        go_wp2_with fail
        go_returns
        exact ⟨by rw [hq.out, hE.out, hh.out]; rfl, by (repeat (first | (with_reducible exact Below.refl _ _) | (with_reducible assumption) | (with_reducible refine below_alloc ?_ _) | (with_reducible refine below_drewN ?_ _) | (with_reducible refine Below.drew ?_) | (with_reducible refine below_then ?_ (by with_reducible assumption)) | (with_reducible refine Below.setCell ?_ (by go_size) _)))⟩
  · have hq := Lib.hid (refMeet_no h)
    have hn : (chk2 d a b == 0) = false := by simpa using h
    have hm : (chk2 d a b != 0) = true := by simpa using h
    go_enter Try.func22, Try.ntmps22
    go_wp2_with fail
    refine (ref02_both d a b _).mono ?_
    rintro e w1 ⟨rfl, hb1⟩
    go_wp2_with fail
    go_returns
    exact ⟨by rw [hq.out]; rfl, by (repeat (first | (with_reducible exact Below.refl _ _) | (with_reducible assumption) | (with_reducible refine below_alloc ?_ _) | (with_reducible refine below_drewN ?_ _) | (with_reducible refine Below.drew ?_) | (with_reducible refine below_then ?_ (by with_reducible assumption)) | (with_reducible refine Below.setCell ?_ (by go_size) _)))⟩

theorem refWithin_ok {d : V3} {a b : Bx} (h : chk2 d a b = 0) : refWithin d a b = !(a.all d).any (fun m => !b.has d m) := by simp [refWithin, h]
theorem refWithin_no {d : V3} {a b : Bx} (h : ¬ chk2 d a b = 0) : refWithin d a b = false := by simp [refWithin, h]
set_option maxRecDepth 100000 in set_option maxHeartbeats 4000000 in
theorem ref02_Within (d : V3) (a b : Bx) (w : World) : Calls Try.prog 24 #[.agg #[.int .i64 d.x, .int .i64 d.y, .int .i64 d.z], .agg #[.int .i64 a.b.x, .int .i64 a.b.y, .int .i64 a.b.z, .int .i64 a.s.x, .int .i64 a.s.y, .int .i64 a.s.z], .agg #[.int .i64 b.b.x, .int .i64 b.b.y, .int .i64 b.b.z, .int .i64 b.s.x, .int .i64 b.s.y, .int .i64 b.s.z]] w (RB w (.tuple #[.bool (refWithin d a b), .int .i64 (chk2 d a b)])) := by
  by_cases h : chk2 d a b = 0
  · have hq := Lib.hid (refWithin_ok h)
    have hh := Lib.hid h
    obtain ⟨hd, ha, hb⟩ := chk2_0' h
    have hn := V3.n_le hd
    have HD := Lib.hid hd
    have HA := Lib.hid ha
    have HB := Lib.hid hb
    clear hd ha hb
    go_enter Try.func24, Try.ntmps24
    go_wp2_with fail
    refine (ref02_both d a b _).mono ?_
    rintro e w1 ⟨rfl, hb1⟩
    (obtain ⟨hc1, hf1⟩ := bcell hb1; have hz1 := hb1.size; (try simp at hz1); have hB : Below w.heap.size w w1 := (by (repeat (first | (with_reducible exact Below.refl _ _) | (with_reducible assumption) | (with_reducible refine below_alloc ?_ _) | (with_reducible refine below_drewN ?_ _) | (with_reducible refine Below.drew ?_) | (with_reducible refine below_then ?_ (by with_reducible assumption)) | (with_reducible refine Below.setCell ?_ (by go_size) _)))); obtain ⟨hcB, hfB⟩ := bcell hB; (try have z0 : w.heap.size < w1.heap.size := by omega); (try have z1 : w.heap.size + 1 < w1.heap.size := by omega); (try have z2 : w.heap.size + 2 < w1.heap.size := by omega); (try have z3 : w.heap.size + 3 < w1.heap.size := by omega))
    go_wp2_with fail
    refine (ref02_All d a _ HD.out HA.out).mono ?_
    rintro e w2 ⟨v, rfl, ho2, hb2⟩
    obtain ⟨base, cap, rfl, hrd, hcap⟩ := own_rd ho2
    clear ho2
    have hb12 := below_then hb1 hb2
    have hB2 : Below w.heap.size w w2 := by (repeat (first | (with_reducible exact Below.refl _ _) | (with_reducible assumption) | (with_reducible refine below_alloc ?_ _) | (with_reducible refine below_drewN ?_ _) | (with_reducible refine Below.drew ?_) | (with_reducible refine below_then ?_ (by with_reducible assumption)) | (with_reducible refine Below.setCell ?_ (by go_size) _)))
    obtain ⟨hc2, hf2⟩ := bcell hb12
    have hz2 := hb12.size
    simp at hz2
    have D2 : DimsAt w2 w.heap.size d := by constructor <;> (rw [hc2 _ _ (by simp [go_sem])]; simp [go_sem])
    have B2 : BxAt w2 (w.heap.size + 1 + 1) b := by constructor <;> (rw [hc2 _ _ (by simp [go_sem])]; simp [go_sem])
    have hmem : ∀ m ∈ a.all d, 0 ≤ m ∧ m ≤ 1000000 := fun m hm => by have := (Bx.mem_all.1 hm).1; omega
    have hlen : (a.all d).length ≤ 4096 := by have := Bx.upto_len d a d.n.toNat; unfold Bx.all; omega
    obtain ⟨l, hl⟩ : ∃ l, l = a.all d := ⟨_, rfl⟩
    rw [← hl] at hrd hq hmem hlen
    go_wp2_with fail
    rw [← hl]
    clear hc2 hf2 hc1 hf1 hcB hfB hb12 hb1 hb2 hB hl
    go_loopw [10] (fun i wr => ∃ k : Nat, k ≤ l.length ∧ i = .int .i64 k ∧ anyTo (fun m => !b.has d m) l k = false ∧ Below w2.heap.size w2 wr) (fun i _ => l.length - (intOf i).toNat)
    case atStart => exact ⟨0, by omega, rfl, anyTo_zero _ _, Below.refl _ _⟩
    case round =>
      obtain ⟨k, hk, rfl, hany, hbw⟩ := hrel
      obtain ⟨d0, d1, d2⟩ := D2.keep hbw D2.lt
      obtain ⟨b0, b1, b2, b3, b4, b5⟩ := B2.keep hbw B2.lt
      have hBw := hB2.trans (hbw.mono hB2.size)
      have hzw := hbw.size
      have t0 : w.heap.size < wr.heap.size := by omega
      have t1 : w.heap.size + 1 + 1 < wr.heap.size := by omega
      have HAny := Lib.hid hany
      have HMem := Lib.hid hmem
      clear hany hmem
      by_cases hlt : k < l.length
      · obtain ⟨g, off, rfl, hcell⟩ := hrd.keep hbw k _ (getElem?_map_int hlt)
        have hx := HMem.out l[k] (List.getElem_mem hlt)
        have hs := Lib.hid (anyTo_succ (fun m => !b.has d m) l k hlt)
        have hy := Lib.hid (any_of_anyTo (fun m => !b.has d m) l k hlt)
        obtain ⟨x, hxx⟩ : ∃ x, x = l[k] := ⟨_, rfl⟩
        rw [← hxx] at hx hs hy hcell
        have hg := World.block_lt_of_cell? wr _ hcell
        simp only [] at hg
        clear hxx
        cases hv : b.has d x with
        | false =>
          go_wp2_with (refine wp_region_aft (by kernel_rfl) (by kernel_rfl) ?_; (repeat (any_goals (first | go_big_quiet_step ((go_at_call 56; refine Calls.aft_of (Calls.rb_eq (ref02_In d b x _ HD.out HB.out (by omega) (by omega)) (v' := .bool false) (by rw [hv])))) | quiet_step ((go_at_call 56; refine Calls.aft_of (Calls.rb_eq (ref02_In d b x _ HD.out HB.out (by omega) (by omega)) (v' := .bool false) (by rw [hv])))) | (refine wpQuiet_step (fun K hK => ?_); go_simp; split <;> (refine hK _ ?_; clear hK K))))); all_goals (refine wpQuiet_nil ?_; intro w1 hw'; obtain ⟨x1, hx1⟩ := hw'; have hb1 := x1.h; rw [← hx1] at hb1; clear hx1 x1; (obtain ⟨hc1, hf1⟩ := bcell hb1; have hz1 := hb1.size; (try simp at hz1); have hB : Below w.heap.size w w1 := (by (repeat (first | (with_reducible exact Below.refl _ _) | (with_reducible assumption) | (with_reducible refine below_alloc ?_ _) | (with_reducible refine below_drewN ?_ _) | (with_reducible refine Below.drew ?_) | (with_reducible refine below_then ?_ (by with_reducible assumption)) | (with_reducible refine Below.setCell ?_ (by go_size) _)))); obtain ⟨hcB, hfB⟩ := bcell hB; (try have z0 : w.heap.size < w1.heap.size := by omega); (try have z1 : w.heap.size + 1 < w1.heap.size := by omega); (try have z2 : w.heap.size + 2 < w1.heap.size := by omega); (try have z3 : w.heap.size + 3 < w1.heap.size := by omega))))
          go_returns
          exact ⟨by rw [hq.out, hy.out (by simp [hv]), hh.out]; rfl, by (repeat (first | (with_reducible exact Below.refl _ _) | (with_reducible assumption) | (with_reducible refine below_alloc ?_ _) | (with_reducible refine below_drewN ?_ _) | (with_reducible refine Below.drew ?_) | (with_reducible refine below_then ?_ (by with_reducible assumption)) | (with_reducible refine Below.setCell ?_ (by go_size) _)))⟩
        | true =>
          have hN := Lib.hid (hs.out.trans (by rw [HAny.out]; simp [hv] : _ = false))
          go_wp2_with (refine wp_region_aft (by kernel_rfl) (by kernel_rfl) ?_; (repeat (any_goals (first | go_big_quiet_step ((go_at_call 56; refine Calls.aft_of (Calls.rb_eq (ref02_In d b x _ HD.out HB.out (by omega) (by omega)) (v' := .bool true) (by rw [hv])))) | quiet_step ((go_at_call 56; refine Calls.aft_of (Calls.rb_eq (ref02_In d b x _ HD.out HB.out (by omega) (by omega)) (v' := .bool true) (by rw [hv])))) | (refine wpQuiet_step (fun K hK => ?_); go_simp; split <;> (refine hK _ ?_; clear hK K))))); all_goals (refine wpQuiet_nil ?_; intro w1 hw'; obtain ⟨x1, hx1⟩ := hw'; have hb1 := x1.h; rw [← hx1] at hb1; clear hx1 x1; (obtain ⟨hc1, hf1⟩ := bcell hb1; have hz1 := hb1.size; (try simp at hz1); have hB : Below w.heap.size w w1 := (by (repeat (first | (with_reducible exact Below.refl _ _) | (with_reducible assumption) | (with_reducible refine below_alloc ?_ _) | (with_reducible refine below_drewN ?_ _) | (with_reducible refine Below.drew ?_) | (with_reducible refine below_then ?_ (by with_reducible assumption)) | (with_reducible refine Below.setCell ?_ (by go_size) _)))); obtain ⟨hcB, hfB⟩ := bcell hB; (try have z0 : w.heap.size < w1.heap.size := by omega); (try have z1 : w.heap.size + 1 < w1.heap.size := by omega); (try have z2 : w.heap.size + 2 < w1.heap.size := by omega); (try have z3 : w.heap.size + 3 < w1.heap.size := by omega))))
          go_roundw
          case rel => exact ⟨k + 1, by omega, by go_num, hN.out, below_then hbw (by assumption)⟩
          case measure => simp [intOf]; omega
      · obtain rfl : k = l.length := by omega
        have hE := Lib.hid ((anyTo_all (fun m => !b.has d m) l).symm.trans HAny.out)
        go_wp2_with fail
        go_returns
        exact ⟨by rw [hq.out, hE.out, hh.out]; rfl, by (repeat (first | (with_reducible exact Below.refl _ _) | (with_reducible assumption) | (with_reducible refine below_alloc ?_ _) | (with_reducible refine below_drewN ?_ _) | (with_reducible refine Below.drew ?_) | (with_reducible refine below_then ?_ (by with_reducible assumption)) | (with_reducible refine Below.setCell ?_ (by go_size) _)))⟩
  · have hq := Lib.hid (refWithin_no h)
    have hn : (chk2 d a b == 0) = false := by simpa using h
    have hm : (chk2 d a b != 0) = true := by simpa using h
    go_enter Try.func24, Try.ntmps24
    go_wp2_with fail
    refine (ref02_both d a b _).mono ?_
    rintro e w1 ⟨rfl, hb1⟩
    go_wp2_with fail
    go_returns
    exact ⟨by rw [hq.out]; rfl, by (repeat (first | (with_reducible exact Below.refl _ _) | (with_reducible assumption) | (with_reducible refine below_alloc ?_ _) | (with_reducible refine below_drewN ?_ _) | (with_reducible refine Below.drew ?_) | (with_reducible refine below_then ?_ (by with_reducible assumption)) | (with_reducible refine Below.setCell ?_ (by go_size) _)))⟩
end Go.Proofs.Ytilibdhcahdndaa
