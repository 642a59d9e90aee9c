/- REF 06: may a place be; the cables of a place: lines begin where a box does. -/
import Derived.IntWalk
import Derived.Deep.RegionLaw
import Derived.Test.YtofoenlhbmammaaGreatQ1FreeTells
import Derived.Test.YtofoenlhbmammaaGreatQ2FreeTells
import Derived.Test.YtofoenlhbmammaaGreatQ7FreeTells
import Derived.Test.YtofoenlhbmammaaGreatQ0PlaceA
import Derived.Test.YtofoenlhbmammaaGreatQ0PlLaw
import Derived.Test.YtofoenlhbmammaaGreatQ0Ref05
namespace Go.Proofs.YtofoenlhbmammaaGreat

section
section
open Go.RowKit Go.Shelf

def plMay (d : V3) (p : Pl) : Bool := !p.odd && (decide (p.b.may d) && decide (p.b.can d = p.b))
theorem plChk_may (d : V3) (p : Pl) : plChk d p = if d.may then (if plMay d p then 0 else 2) else 8 := by
  unfold plChk plMay chk
  by_cases hd : d.may
  · rw [if_pos hd, if_pos hd]
    by_cases hb : p.b.may d
    · rw [okIf_yes hb, decide_eq_true hb]
      cases p.odd <;> by_cases hc : p.b.can d = p.b <;> simp [hc]
    · rw [okIf_no hb, decide_eq_false hb]
      cases p.odd <;> simp
  · rw [if_neg hd, if_neg hd]
    rfl
set_option maxRecDepth 100000 in set_option maxHeartbeats 4000000 in
theorem ref06_May (d : V3) (p : Pl) (w : World) : Calls Tryz.prog 68 #[.agg #[.int .i64 d.x, .int .i64 d.y, .int .i64 d.z], .agg #[.int .i64 p.b.b.x, .int .i64 p.b.b.y, .int .i64 p.b.b.z, .int .i64 p.b.s.x, .int .i64 p.b.s.y, .int .i64 p.b.s.z, .bool p.t0, .bool p.t1, .bool p.t2]] w (RB w (.bool (plMay d p))) := by
  have HM := Lib.hid (fun W => ref02_May d p.b W)
  have HT := Lib.hid (fun W => ref02_Told d p.b W)
  have HO := Lib.hid p.odd_iff
  have HV := Lib.hid (show plMay d p = (!p.odd && (decide (p.b.may d) && decide (p.b.can d = p.b))) from rfl)
  have heq : ∀ w, (binOp .eql 28 (.agg #[.int .i64 (p.b.can d).b.x, .int .i64 (p.b.can d).b.y, .int .i64 (p.b.can d).b.z, .int .i64 (p.b.can d).s.x, .int .i64 (p.b.can d).s.y, .int .i64 (p.b.can d).s.z]) (.agg #[.int .i64 p.b.b.x, .int .i64 p.b.b.y, .int .i64 p.b.b.z, .int .i64 p.b.s.x, .int .i64 p.b.s.y, .int .i64 p.b.s.z])).run Tryz.prog w = .ok (.bool (decide (p.b.can d = p.b))) w := fun w => by rw [run_eql_box]
  have hgd : Tryz.prog.eqGuardType Tryz.prog.depth 28 = false := by kernel_rfl
  generalize decide (p.b.can d = p.b) = r at *
  generalize p.b.can d = c at *
  have BP := Lib.hid (Blk.new (w.alloc (.cells #[.int .i64 d.x, .int .i64 d.y, .int .i64 d.z] 23)) 31 #[.int .i64 p.b.b.x, .int .i64 p.b.b.y, .int .i64 p.b.b.z, .int .i64 p.b.s.x, .int .i64 p.b.s.y, .int .i64 p.b.s.z, .bool p.t0, .bool p.t1, .bool p.t2])
  have BD := Lib.hid ((Blk.new w 23 #[.int .i64 d.x, .int .i64 d.y, .int .i64 d.z]).alloc (.cells #[.int .i64 p.b.b.x, .int .i64 p.b.b.y, .int .i64 p.b.b.z, .int .i64 p.b.s.x, .int .i64 p.b.s.y, .int .i64 p.b.s.z, .bool p.t0, .bool p.t1, .bool p.t2] 31))
  have HB := Lib.hid (show Below w.heap.size w ((w.alloc (.cells #[.int .i64 d.x, .int .i64 d.y, .int .i64 d.z] 23)).alloc (.cells #[.int .i64 p.b.b.x, .int .i64 p.b.b.y, .int .i64 p.b.b.z, .int .i64 p.b.s.x, .int .i64 p.b.s.y, .int .i64 p.b.s.z, .bool p.t0, .bool p.t1, .bool p.t2] 31)) by (repeat (first | (with_reducible exact Below.refl _ _) | (with_reducible assumption) | (with_reducible refine below_alloc ?_ _) | (with_reducible refine below_drewN ?_ _) | (with_reducible refine Below.drew ?_) | (with_reducible refine below_then ?_ (by with_reducible assumption)) | (with_reducible refine Below.setCell ?_ (by go_size) _))))
  have hs : ((w.alloc (.cells #[.int .i64 d.x, .int .i64 d.y, .int .i64 d.z] 23)).alloc (.cells #[.int .i64 p.b.b.x, .int .i64 p.b.b.y, .int .i64 p.b.b.z, .int .i64 p.b.s.x, .int .i64 p.b.s.y, .int .i64 p.b.s.z, .bool p.t0, .bool p.t1, .bool p.t2] 31)).heap.size = w.heap.size + 2 := by simp
  have hw1 : (w.alloc (.cells #[.int .i64 d.x, .int .i64 d.y, .int .i64 d.z] 23)).heap.size = w.heap.size + 1 := by simp
  rw [hw1] at BP
  go_enter Tryz.func68, Tryz.ntmps68
  go_wp2_with fail
  obtain ⟨W, hW⟩ : ∃ W, (w.alloc (.cells #[.int .i64 d.x, .int .i64 d.y, .int .i64 d.z] 23)).alloc (.cells #[.int .i64 p.b.b.x, .int .i64 p.b.b.y, .int .i64 p.b.b.z, .int .i64 p.b.s.x, .int .i64 p.b.s.y, .int .i64 p.b.s.z, .bool p.t0, .bool p.t1, .bool p.t2] 31) = W := ⟨_, rfl⟩
  rw [hW] at BP BD HB hs ⊢
  clear hW hw1
  go_loop [5] (fun i => ∃ k : Nat, k ≤ 3 ∧ i = .int .i64 k ∧ ∀ j, j < k → ¬ (p.tor j = true ∧ p.b.s.at j = 1)) (fun i => 3 - (intOf i).toNat)
  case atStart => exact ⟨0, by omega, rfl, fun j hj => by omega⟩
  case round =>
    obtain ⟨k, hk, rfl, hj⟩ := hrel
    have HJ := Lib.hid hj
    clear hj
    by_cases hlt : k < 3
    · have hc := size_cell BP.out k hlt
      have ht' := tor_cell BP.out k hlt
      cases ht : p.tor k with
      | false =>
        rw [ht] at ht'
        have HT2 := Lib.hid ht
        clear ht hc
        go_wp2_with fail
        go_round
        case rel => exact ⟨k + 1, by omega, by go_num, fun j hj => by
          by_cases e : j = k
          · subst e; rw [HT2.out]; simp
          · exact HJ.out j (by omega)⟩
        case measure => (simp [intOf] <;> omega)
      | true =>
        rw [ht] at ht'
        have HT2 := Lib.hid ht
        clear ht
        by_cases hs1 : p.b.s.at k = 1
        · have hs2 : (p.b.s.at k == 1) = true := by simpa using hs1
          have hO := Lib.hid (HO.out.2 ⟨k, hlt, HT2.out, hs1⟩)
          clear hs1
          go_wp2_with fail
          go_returns
          exact ⟨by rw [HV.out, hO.out]; rfl, HB.out⟩
        · have hs2 : (p.b.s.at k == 1) = false := by simpa using hs1
          have HS := Lib.hid hs1
          clear hs1
          go_wp2_with fail
          go_round
          case rel => exact ⟨k + 1, by omega, by go_num, fun j hj => by
            by_cases e : j = k
            · subst e; intro h; exact HS.out h.2
            · exact HJ.out j (by omega)⟩
          case measure => (simp [intOf] <;> omega)
    · obtain rfl : k = 3 := by omega
      have hO : p.odd = false := by
        cases h : p.odd with
        | false => rfl
        | true => obtain ⟨j, h1, h2⟩ := HO.out.1 h; exact absurd h2 (HJ.out j h1)
      rw [hO] at HV
      have p0 := BP.out.cell 0 _ rfl
      have p1 := BP.out.cell 1 _ rfl
      have p2 := BP.out.cell 2 _ rfl
      have p3 := BP.out.cell 3 _ rfl
      have p4 := BP.out.cell 4 _ rfl
      have p5 := BP.out.cell 5 _ rfl
      have d0 := BD.out.cell 0 _ rfl
      have d1 := BD.out.cell 1 _ rfl
      have d2 := BD.out.cell 2 _ rfl
      have b1 := BP.out.lt
      have b2 := BD.out.lt
      have I1 := Lib.hid (fun (y : Aft W) => Calls.aft_of (x := y) (HM.out y.to))
      have I2 := Lib.hid (fun (y : Aft W) => Calls.aft_of (x := y) (HT.out y.to))
      generalize decide (p.b.may d) = z at *
      clear hO HJ HM HT
      cases z <;> cases r
      all_goals
        go_wp2_with fail
        (refine wp_region_aft (by kernel_rfl) (by kernel_rfl) ?_; (repeat (any_goals (first | go_big_quiet_step ((first | (go_at_call 95; with_reducible exact I1.out _) | (go_at_call 96; with_reducible exact I2.out _))) | quiet_step ((first | (go_at_call 95; with_reducible exact I1.out _) | (go_at_call 96; with_reducible exact I2.out _))) | (refine wpQuiet_step (fun K hK => ?_); go_simp; split <;> (refine hK _ ?_; clear hK K))))); all_goals (refine wpQuiet_nil ?_; intro wq hw'; obtain ⟨x1, hx1⟩ := hw'; have hbq := x1.h; rw [← hx1] at hbq; clear hx1 x1))
        all_goals
          go_wp2_with fail
          go_returns
          exact ⟨by rw [HV.out]; rfl, HB.out.trans (hbq.mono (by omega))⟩
set_option maxRecDepth 100000 in set_option maxHeartbeats 4000000 in
theorem ref06_Check (d : V3) (p : Pl) (w : World) : Calls Tryz.prog 35 #[.agg #[.int .i64 d.x, .int .i64 d.y, .int .i64 d.z], .agg #[.int .i64 p.b.b.x, .int .i64 p.b.b.y, .int .i64 p.b.b.z, .int .i64 p.b.s.x, .int .i64 p.b.s.y, .int .i64 p.b.s.z, .bool p.t0, .bool p.t1, .bool p.t2]] w (RB w (.int .i64 (plChk d p))) := by
  have HD := Lib.hid (fun W => ref01_May d W)
  have HM := Lib.hid (fun W => ref06_May d p W)
  have HE := Lib.hid (plChk_may d p)
  by_cases hd : d.may
  · rw [decide_eq_true hd] at HD
    rw [if_pos hd] at HE
    clear hd
    generalize plMay d p = z at *
    cases z
    all_goals
      go_enter Tryz.func35, Tryz.ntmps35
      go_wp2_with ((with_reducible refine (HD.out _).mono ?_); rintro e w1 ⟨rfl, hb1⟩; (obtain ⟨hc1, hf1⟩ := bcell hb1; have hz1 := hb1.size; (try simp at hz1); have hB : Below w.heap.size w w1 := (by (repeat (first | (with_reducible exact Below.refl _ _) | (with_reducible assumption) | (with_reducible refine below_alloc ?_ _) | (with_reducible refine below_drewN ?_ _) | (with_reducible refine Below.drew ?_) | (with_reducible refine below_then ?_ (by with_reducible assumption)) | (with_reducible refine Below.setCell ?_ (by go_size) _)))); obtain ⟨hcB, hfB⟩ := bcell hB; (try have z0 : w.heap.size < w1.heap.size := by omega); (try have z1 : w.heap.size + 1 < w1.heap.size := by omega); (try have z2 : w.heap.size + 2 < w1.heap.size := by omega); (try have z3 : w.heap.size + 3 < w1.heap.size := by omega)))
      refine (HM.out _).mono ?_
      rintro e w2 ⟨rfl, hb2⟩
      have hB2 := below_then hB hb2
      go_wp2_with fail
      go_returns
      exact ⟨by rw [HE.out]; rfl, hB2⟩
  · rw [decide_eq_false hd] at HD
    rw [if_neg hd] at HE
    clear hd
    go_enter Tryz.func35, Tryz.ntmps35
    go_wp2_with ((with_reducible refine (HD.out _).mono ?_); rintro e w1 ⟨rfl, hb1⟩; (obtain ⟨hc1, hf1⟩ := bcell hb1; have hz1 := hb1.size; (try simp at hz1); have hB : Below w.heap.size w w1 := (by (repeat (first | (with_reducible exact Below.refl _ _) | (with_reducible assumption) | (with_reducible refine below_alloc ?_ _) | (with_reducible refine below_drewN ?_ _) | (with_reducible refine Below.drew ?_) | (with_reducible refine below_then ?_ (by with_reducible assumption)) | (with_reducible refine Below.setCell ?_ (by go_size) _)))); obtain ⟨hcB, hfB⟩ := bcell hB; (try have z0 : w.heap.size < w1.heap.size := by omega); (try have z1 : w.heap.size + 1 < w1.heap.size := by omega); (try have z2 : w.heap.size + 2 < w1.heap.size := by omega); (try have z3 : w.heap.size + 3 < w1.heap.size := by omega)))
    all_goals
      go_returns
      exact ⟨by rw [HE.out]; rfl, hB⟩
end

section
open Go.RowKit Go.Shelf

/-- Where a line begins. -/
def beginB (d : V3) (b : Bx) (k : Nat) (m : Int) : Bool := decide ((d.pos m).at k = b.b.at k)
theorem thin_filter {d : V3} {b : Bx} {k : Nat} (hd : d.may) (hb : b.may d) (hk : k < 3) : (b.thin k).all d = (b.all d).filter (beginB d b k) := by
  have hbm := Bx.may_at.1 hb
  refine rise_ext (Bx.all_rise _ _) ((Bx.all_rise d b).filter _) (fun m => ?_)
  rw [thin_iff hd hb hk, List.mem_filter, Bx.mem_all_iff hd hb, Bx.hasP_at]
  unfold beginB
  rw [decide_eq_true_iff]
  constructor
  · rintro ⟨hm, he, hj⟩
    refine ⟨⟨hm, fun j hj3 => ?_⟩, he⟩
    by_cases e : j = k
    · subst e
      rw [he, stepsOn_eq (hbm j hj3).2.1 (hbm j hj3).2.2 (hbm j hj3).2.1 (hbm j hj3).2.2]
      have := (hbm j hj3).1.1
      simp
      omega
    · exact hj j hj3 e
  · rintro ⟨⟨hm, hj⟩, he⟩
    exact ⟨hm, he, fun j hj3 _ => hj j hj3⟩
/-- What has been added of one axis. -/
def cabsF (d : V3) (p : Pl) (k : Nat) (l : List Int) : List Int := cabsOf d p k (l.filter (beginB d p.b k))
theorem cabsF_all {d : V3} {p : Pl} {k : Nat} (hd : d.may) (hb : p.b.may d) (hk : k < 3) : cabsF d p k (p.b.all d) = cabs d p k := by unfold cabsF cabs; rw [thin_filter hd hb hk]
theorem cabsF_snoc (d : V3) (p : Pl) (k : Nat) (l : List Int) (m : Int) : cabsF d p k (l ++ [m]) = cabsF d p k l ++ (if beginB d p.b k m then d.runV k m (p.b.s.at k) (p.tor k) else []) := by
  unfold cabsF
  rw [List.filter_append]
  cases h : beginB d p.b k m with
  | true => rw [List.filter_cons, if_pos h, List.filter_nil, cabsOf_snoc]; simp
  | false => rw [List.filter_cons, if_neg (by rw [h]; decide), List.filter_nil]; simp
theorem cabsF_len (d : V3) (p : Pl) (k : Nat) (l : List Int) : (cabsF d p k l).length ≤ 16 * l.length := by
  have h1 := cabsOf_len d p k (l.filter (beginB d p.b k))
  have h2 := List.length_filter_le (beginB d p.b k) l
  unfold cabsF
  omega
end
end
end Go.Proofs.YtofoenlhbmammaaGreat
