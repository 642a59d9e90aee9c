/- WIRES: the cables of a line. -/
import Derived.Test.YtpooieghlceefaaRun
import Derived.Shelf.Slices.In.SortNone
import Derived.Deep.DeepCutAuto
import Derived.Deep.RegionHeld3
namespace Go.Proofs.Ytpooieghlceefaa
open Go.RowKit Go.Shelf
attribute [local go_sem] Oper.semAt_some

theorem own_slice_zero {w : World} {B : Nat} {v : Value} {xs : List Value} (h : w.ownsRow B 3 1 v 0 xs) : ∃ p cap, v = .slice p 0 cap := by
  rcases h.2 with ⟨rfl, _⟩ | ⟨g, cap, _, rfl, _⟩
  · exact ⟨_, _, rfl⟩
  · exact ⟨_, _, rfl⟩
set_option maxRecDepth 100000 in set_option maxHeartbeats 4000000 in
theorem slices_Sorted0 (g : Nat) (lb : Array Value) (eg : ∀ args w, (callFunc g args).run Try.prog w = .ok (.enter g args) w) (w : World) (hseq : Gives g lb [] w.heap.size w) :
    Calls Try.prog 39 #[.func (.func g) #[] lb] w (RL w []) := by
  have HC := Lib.hid (collect g lb eg [] w (Nat.zero_le _) hseq)
  have HS := Lib.hid (fun p cap W => Any.slices_Sort_int_none Try.laysSort p cap W)
  clear hseq
  go_enter Try.func39, Try.ntmps39
  go_wp2_with fail
  refine HC.out.mono ?_
  rintro e w1 ⟨v, rfl, ho, hb⟩
  obtain ⟨p, cap, rfl⟩ := own_slice_zero ho
  have HO := Lib.hid ho
  have HB := Lib.hid hb
  clear ho hb
  go_wp2_with fail
  refine (HS.out _ _ _).mono ?_
  rintro e w2 ⟨rfl, hw⟩
  have hw := hw.symm
  subst hw
  go_wp2_with fail
  go_returns
  exact ⟨_, rfl, HO.out, HB.out⟩
set_option maxRecDepth 100000 in set_option maxHeartbeats 4000000 in
/-- Along an axis of one midplane there is no cable. -/
theorem on_gives0 (b1 b2 b3 b4 n₀ : Nat) (d : V3) (k : Nat) (m : Int) (w : World) (hd : d.may) (hk : k < 3) (m0 : 0 ≤ m) (m1 : m < d.n) (hn1 : d.at k = 1) (h1 : b1 < n₀) (h2 : b2 < n₀) (h3 : b3 < n₀) (h4 : b4 < n₀) (hn₀ : n₀ ≤ w.heap.size)
    (ha : OnAt w b1 b2 b3 b4 d k m 1) :
    Gives 61 #[.pointer (some ⟨b1, 0, none⟩), .pointer (some ⟨b2, 0, none⟩), .pointer (some ⟨b3, 0, none⟩), .pointer (some ⟨b4, 0, none⟩)] [] n₀ w := by
  intro l J Jx W hW hJ _ hY h0
  have HA := Lib.hid (ha.keep (hW.mono hn₀) h1 h2 h3 h4)
  have HS1 := Lib.hid (fun W => pos_Step d m k 0 W hd m0 m1 hk (by omega) (by omega))
  have hx := V3.num_lt hd (V3.stepped_inside hd m0 m1 hk 0)
  have HL := Lib.hid (fun (x : Int) (hx : 0 ≤ x ∧ x < d.n) W => (show Calls Try.prog 12 #[.agg #[.int .i64 d.x, .int .i64 d.y, .int .i64 d.z], .int .i64 k, .int .i64 x] W (RB W (.tuple #[.int .i64 0, .int .i64 6])) by
    have h := wire_Link d k x W
    have ea : d.askE k x = 0 := by rw [V3.askE, if_pos hd, if_pos ⟨⟨by omega, by omega⟩, hx.1, hx.2⟩]
    have el : d.linkE k x = 6 := by rw [V3.linkE, if_pos ea, if_pos (by simpa using hn1)]
    have ev : d.linkV k x = 0 := by rw [V3.linkV, if_neg (by rw [el]; decide)]
    rwa [el, ev] at h))
  have HJ := Lib.hid (fun s W1 W2 (h : J s W1) (hb : Below W1.heap.size W1 W2) => hJ s W1 W2 none h (grown_none hb) (fun r e => by cases e))
  have hs0 : n₀ ≤ W.heap.size := Nat.le_trans hn₀ hW.size
  clear ha hY hJ hd m0 m1 hn1 hW
  rw [show d.step m k 0 = d.num (d.stepped m k 0) from rfl] at HS1
  obtain ⟨x, hxe⟩ : ∃ x, x = d.num (d.stepped m k 0) := ⟨_, rfl⟩
  rw [← hxe] at hx HS1
  clear hxe
  have HL1 := Lib.hid (fun W => HL.out x hx W)
  refine callsIn_of_wp Try.func61 rfl trivial ?_ rfl
  simp only [Try.ntmps61, List.size_toArray, List.length_cons, List.length_nil, Nat.reduceAdd, Nat.reduceSub, Array.replicate_succ, Array.replicate_zero, List.push_toArray, List.append_toArray, List.nil_append, List.cons_append]
  have c0 := HA.out.many
  gi_wp2
  refine wpIn_loop_rounds 2 ?_
  rw [roundsIn_succ]
  obtain ⟨u0, ⟨u1, u2, u3⟩, u4, u5⟩ := HA.out
  gi_wp2_with fail
  clear u0 u1 u2 u3 u4 u5
  refine ⟨trivial, ?_⟩
  refine (callsIn_wide.2 (HS1.out _)).mono ?_
  rintro e w1 ⟨rfl, hb1⟩
  have HJi := Lib.hid (HJ.out _ _ _ h0 hb1)
  have HO := Lib.hid (HA.out.keep hb1 (by omega) (by omega) (by omega) (by omega))
  have hz2 := hb1.size
  clear hb1
  obtain ⟨u0, ⟨u1, u2, u3⟩, u4, u5⟩ := HO.out
  gi_wp2_with fail
  clear u0 u1 u2 u3 u4 u5
  refine ⟨trivial, ?_⟩
  refine (callsIn_wide.2 (HL1.out _)).mono ?_
  rintro e w2 ⟨rfl, hb1⟩
  have HJi := Lib.hid (HJ.out _ _ _ HJi.out hb1)
  clear hb1
  gi_wp2
  refine ⟨fun _ h => (by cases h), ?_⟩
  gi_wp2
  exact bodyPost_ret (v := .tuple #[]) (by simp [results, Try.f61]) rfl ⟨⟨_, rfl⟩, .inl ⟨_, rfl, HJi.out⟩⟩

def V3.lineV (d : V3) (axis m : Int) : List Int := if d.askE axis m = 0 ∧ d.at axis.toNat ≠ 1 then sorted (d.links axis.toNat m (d.at axis.toNat).toNat) else []
set_option maxRecDepth 100000 in set_option maxHeartbeats 4000000 in
theorem wire_Line_bad (d : V3) (axis m : Int) (w : World) (h : d.askE axis m ≠ 0) :
    Calls Try.prog 16 #[.agg #[.int .i64 d.x, .int .i64 d.y, .int .i64 d.z], .int .i64 axis, .int .i64 m] w (RLE w [] (d.askE axis m)) := by
  have HA := Lib.hid (fun W => wire_asked d axis m W)
  have g1 : (d.askE axis m == 0) = false := by simpa using h
  have g2 : (d.askE axis m != 0) = true := by simpa using h
  clear h
  generalize d.askE axis m = E at *
  go_enter Try.func16, Try.ntmps16
  go_wp2_with fail
  refine (HA.out _).mono ?_
  rintro e w1 ⟨rfl, hb1⟩
  have HB := Lib.hid (below_then (show Below w.heap.size w (w.alloc (.cells #[.int .i64 d.x, .int .i64 d.y, .int .i64 d.z] 23)) by (repeat (first | (with_reducible exact Below.refl _ _) | (with_reducible assumption) | (with_reducible refine below_alloc ?_ _) | (with_reducible refine below_drewN ?_ _) | (with_reducible refine Below.drew ?_) | (with_reducible refine below_then ?_ (by with_reducible assumption)) | (with_reducible refine Below.setCell ?_ (by go_size) _)))) hb1)
  clear hb1
  go_wp2_with fail
  go_returns
  exact rle_nil _ HB.out
set_option maxRecDepth 100000 in set_option maxHeartbeats 4000000 in
theorem wire_Line_go0 (d : V3) (m : Int) (L : List Int) (w : World) (h : d.askE 0 m = 0)
    (HOn : Hid (∀ W, Calls Try.prog 40 #[.agg #[.int .i64 d.x, .int .i64 d.y, .int .i64 d.z], .int .i64 0, .int .i64 m, .int .i64 d.x] W fun e w' => e = .returned (.func (.func 61) #[] #[.pointer (some ⟨W.heap.size + 1 + 1 + 1, 0, none⟩), .pointer (some ⟨W.heap.size, 0, none⟩), .pointer (some ⟨W.heap.size + 1 + 1, 0, none⟩), .pointer (some ⟨W.heap.size + 1, 0, none⟩)]) ∧
      OnAt w' (W.heap.size + 1 + 1 + 1) W.heap.size (W.heap.size + 1 + 1) (W.heap.size + 1) d 0 m (d.x).toNat ∧ W.heap.size + 1 + 1 + 1 < w'.heap.size ∧ Below W.heap.size W w'))
    (HS : Hid (∀ b1 b2 b3 b4 W, b1 < W.heap.size → b2 < W.heap.size → b3 < W.heap.size → b4 < W.heap.size → OnAt W b1 b2 b3 b4 d 0 m (d.x).toNat →
      Calls Try.prog 39 #[.func (.func 61) #[] #[.pointer (some ⟨b1, 0, none⟩), .pointer (some ⟨b2, 0, none⟩), .pointer (some ⟨b3, 0, none⟩), .pointer (some ⟨b4, 0, none⟩)]] W (RL W L))) :
    Calls Try.prog 16 #[.agg #[.int .i64 d.x, .int .i64 d.y, .int .i64 d.z], .int .i64 0, .int .i64 m] w (RLE w L 0) := by
  have HA := Lib.hid (fun W => by have := wire_asked d 0 m W; rw [h] at this; exact this)
  clear h
  go_enter Try.func16, Try.ntmps16
  go_wp2_with fail
  refine (HA.out _).mono ?_
  rintro e w1 ⟨rfl, hb1⟩
  have BD := Lib.hid (((Blk.new w 23 #[.int .i64 d.x, .int .i64 d.y, .int .i64 d.z]).below hb1).dims)
  have HB := Lib.hid (below_then (show Below w.heap.size w (w.alloc (.cells #[.int .i64 d.x, .int .i64 d.y, .int .i64 d.z] 23)) by (repeat (first | (with_reducible exact Below.refl _ _) | (with_reducible assumption) | (with_reducible refine below_alloc ?_ _) | (with_reducible refine below_drewN ?_ _) | (with_reducible refine Below.drew ?_) | (with_reducible refine below_then ?_ (by with_reducible assumption)) | (with_reducible refine Below.setCell ?_ (by go_size) _)))) hb1)
  clear hb1
  have hlt := BD.out.lt
  obtain ⟨d0, d1, d2⟩ := BD.out
  go_wp2_with fail
  have mixed : Try.prog.follows .mixedOrders = true := by kernel_rfl
  go_region_held3 (fun W => W.cell? ⟨w.heap.size, 0, none⟩ = some (.int .i64 d.x) ∧ W.cell? ⟨w.heap.size, 1, none⟩ = some (.int .i64 d.y) ∧ W.cell? ⟨w.heap.size, 2, none⟩ = some (.int .i64 d.z)) (go_keep)
    (first
      | (go_at_call 40; refine (HOn.out _).mono ?_; rintro e wa ⟨rfl, hon, hlt2, hba⟩; have HX := Lib.hid hon; clear hon; have HBa := Lib.hid (below_then (show Below w1.heap.size w1 _ by (repeat (first | (with_reducible exact Below.refl _ _) | (with_reducible assumption) | (with_reducible refine below_alloc ?_ _) | (with_reducible refine below_drewN ?_ _) | (with_reducible refine Below.drew ?_) | (with_reducible refine below_then ?_ (by with_reducible assumption)) | (with_reducible refine Below.setCell ?_ (by go_size) _)))) hba); clear hba; obtain ⟨d0', d1', d2'⟩ := BD.out.keep HBa.out BD.out.lt)
      | (go_at_call 39; refine (HS.out _ _ _ _ _ (by omega) (by omega) (by omega) (by omega) HX.out).mono ?_; rintro e wb ⟨v, rfl, ho, hbb⟩; obtain ⟨d0', d1', d2'⟩ := (BD.out.keep HBa.out BD.out.lt).keep hbb (Nat.lt_of_lt_of_le BD.out.lt HBa.out.size); have HBb := Lib.hid (HBa.out.trans (hbb.mono HBa.out.size)); have HO := Lib.hid (own_mono ho HBa.out.size); clear ho hbb))
  all_goals go_wp2_with fail
  all_goals go_returns
  all_goals exact ⟨_, rfl, own_mono HO.out HB.out.size, below_then HB.out HBb.out⟩
set_option maxRecDepth 100000 in set_option maxHeartbeats 4000000 in
theorem wire_Line_ax0 (d : V3) (m : Int) (w : World) (h : d.askE 0 m = 0) :
    Calls Try.prog 16 #[.agg #[.int .i64 d.x, .int .i64 d.y, .int .i64 d.z], .int .i64 0, .int .i64 m] w (RLE w (d.lineV 0 m) 0) := by
  obtain ⟨hd, _, m0, m1⟩ := V3.askE_0 h
  have hdd := hd
  unfold V3.may at hdd
  have eg : ∀ args w, (callFunc 61 args).run Try.prog w = .ok (.enter 61 args) w := enters_of Try.func61 (by kernel_rfl) rfl
  have hcast : (((d.x).toNat : Nat) : Int) = d.x := by omega
  refine wire_Line_go0 d m (d.lineV 0 m) w h (Lib.hid fun W => ?_) (Lib.hid ?_)
  · have := wire_on d 0 m (d.x).toNat W
    rw [hcast] at this
    exact this
  · intro b1 b2 b3 b4 W hb1 hb2 hb3 hb4 ho
    by_cases h1 : d.x = 1
    · rw [show d.lineV 0 m = [] from if_neg (fun h => h.2 h1)]
      rw [show (d.x).toNat = 1 by omega] at ho
      exact slices_Sorted0 _ _ eg W (on_gives0 b1 b2 b3 b4 W.heap.size d 0 m W hd (by decide) m0 m1 h1 hb1 hb2 hb3 hb4 (Nat.le_refl _) ho)
    · rw [show d.lineV 0 m = sorted (d.links 0 m (d.x).toNat) from if_pos ⟨h, h1⟩]
      exact slices_Sorted _ _ eg (d.links 0 m (d.x).toNat) W (by rw [V3.links_len]; omega) (by rw [V3.links_len]; omega)
        (on_gives b1 b2 b3 b4 W.heap.size d 0 m (d.x).toNat W hd (by decide) m0 m1 h1 (by omega) hb1 hb2 hb3 hb4 (Nat.le_refl _) ho)
set_option maxRecDepth 100000 in set_option maxHeartbeats 4000000 in
theorem wire_Line_go1 (d : V3) (m : Int) (L : List Int) (w : World) (h : d.askE 1 m = 0)
    (HOn : Hid (∀ W, Calls Try.prog 40 #[.agg #[.int .i64 d.x, .int .i64 d.y, .int .i64 d.z], .int .i64 1, .int .i64 m, .int .i64 d.y] W fun e w' => e = .returned (.func (.func 61) #[] #[.pointer (some ⟨W.heap.size + 1 + 1 + 1, 0, none⟩), .pointer (some ⟨W.heap.size, 0, none⟩), .pointer (some ⟨W.heap.size + 1 + 1, 0, none⟩), .pointer (some ⟨W.heap.size + 1, 0, none⟩)]) ∧
      OnAt w' (W.heap.size + 1 + 1 + 1) W.heap.size (W.heap.size + 1 + 1) (W.heap.size + 1) d 1 m (d.y).toNat ∧ W.heap.size + 1 + 1 + 1 < w'.heap.size ∧ Below W.heap.size W w'))
    (HS : Hid (∀ b1 b2 b3 b4 W, b1 < W.heap.size → b2 < W.heap.size → b3 < W.heap.size → b4 < W.heap.size → OnAt W b1 b2 b3 b4 d 1 m (d.y).toNat →
      Calls Try.prog 39 #[.func (.func 61) #[] #[.pointer (some ⟨b1, 0, none⟩), .pointer (some ⟨b2, 0, none⟩), .pointer (some ⟨b3, 0, none⟩), .pointer (some ⟨b4, 0, none⟩)]] W (RL W L))) :
    Calls Try.prog 16 #[.agg #[.int .i64 d.x, .int .i64 d.y, .int .i64 d.z], .int .i64 1, .int .i64 m] w (RLE w L 0) := by
  have HA := Lib.hid (fun W => by have := wire_asked d 1 m W; rw [h] at this; exact this)
  clear h
  go_enter Try.func16, Try.ntmps16
  go_wp2_with fail
  refine (HA.out _).mono ?_
  rintro e w1 ⟨rfl, hb1⟩
  have BD := Lib.hid (((Blk.new w 23 #[.int .i64 d.x, .int .i64 d.y, .int .i64 d.z]).below hb1).dims)
  have HB := Lib.hid (below_then (show Below w.heap.size w (w.alloc (.cells #[.int .i64 d.x, .int .i64 d.y, .int .i64 d.z] 23)) by (repeat (first | (with_reducible exact Below.refl _ _) | (with_reducible assumption) | (with_reducible refine below_alloc ?_ _) | (with_reducible refine below_drewN ?_ _) | (with_reducible refine Below.drew ?_) | (with_reducible refine below_then ?_ (by with_reducible assumption)) | (with_reducible refine Below.setCell ?_ (by go_size) _)))) hb1)
  clear hb1
  have hlt := BD.out.lt
  obtain ⟨d0, d1, d2⟩ := BD.out
  go_wp2_with fail
  have mixed : Try.prog.follows .mixedOrders = true := by kernel_rfl
  go_region_held3 (fun W => W.cell? ⟨w.heap.size, 0, none⟩ = some (.int .i64 d.x) ∧ W.cell? ⟨w.heap.size, 1, none⟩ = some (.int .i64 d.y) ∧ W.cell? ⟨w.heap.size, 2, none⟩ = some (.int .i64 d.z)) (go_keep)
    (first
      | (go_at_call 40; refine (HOn.out _).mono ?_; rintro e wa ⟨rfl, hon, hlt2, hba⟩; have HX := Lib.hid hon; clear hon; have HBa := Lib.hid (below_then (show Below w1.heap.size w1 _ by (repeat (first | (with_reducible exact Below.refl _ _) | (with_reducible assumption) | (with_reducible refine below_alloc ?_ _) | (with_reducible refine below_drewN ?_ _) | (with_reducible refine Below.drew ?_) | (with_reducible refine below_then ?_ (by with_reducible assumption)) | (with_reducible refine Below.setCell ?_ (by go_size) _)))) hba); clear hba; obtain ⟨d0', d1', d2'⟩ := BD.out.keep HBa.out BD.out.lt)
      | (go_at_call 39; refine (HS.out _ _ _ _ _ (by omega) (by omega) (by omega) (by omega) HX.out).mono ?_; rintro e wb ⟨v, rfl, ho, hbb⟩; obtain ⟨d0', d1', d2'⟩ := (BD.out.keep HBa.out BD.out.lt).keep hbb (Nat.lt_of_lt_of_le BD.out.lt HBa.out.size); have HBb := Lib.hid (HBa.out.trans (hbb.mono HBa.out.size)); have HO := Lib.hid (own_mono ho HBa.out.size); clear ho hbb))
  all_goals go_wp2_with fail
  all_goals go_returns
  all_goals exact ⟨_, rfl, own_mono HO.out HB.out.size, below_then HB.out HBb.out⟩
set_option maxRecDepth 100000 in set_option maxHeartbeats 4000000 in
theorem wire_Line_ax1 (d : V3) (m : Int) (w : World) (h : d.askE 1 m = 0) :
    Calls Try.prog 16 #[.agg #[.int .i64 d.x, .int .i64 d.y, .int .i64 d.z], .int .i64 1, .int .i64 m] w (RLE w (d.lineV 1 m) 0) := by
  obtain ⟨hd, _, m0, m1⟩ := V3.askE_0 h
  have hdd := hd
  unfold V3.may at hdd
  have eg : ∀ args w, (callFunc 61 args).run Try.prog w = .ok (.enter 61 args) w := enters_of Try.func61 (by kernel_rfl) rfl
  have hcast : (((d.y).toNat : Nat) : Int) = d.y := by omega
  refine wire_Line_go1 d m (d.lineV 1 m) w h (Lib.hid fun W => ?_) (Lib.hid ?_)
  · have := wire_on d 1 m (d.y).toNat W
    rw [hcast] at this
    exact this
  · intro b1 b2 b3 b4 W hb1 hb2 hb3 hb4 ho
    by_cases h1 : d.y = 1
    · rw [show d.lineV 1 m = [] from if_neg (fun h => h.2 h1)]
      rw [show (d.y).toNat = 1 by omega] at ho
      exact slices_Sorted0 _ _ eg W (on_gives0 b1 b2 b3 b4 W.heap.size d 1 m W hd (by decide) m0 m1 h1 hb1 hb2 hb3 hb4 (Nat.le_refl _) ho)
    · rw [show d.lineV 1 m = sorted (d.links 1 m (d.y).toNat) from if_pos ⟨h, h1⟩]
      exact slices_Sorted _ _ eg (d.links 1 m (d.y).toNat) W (by rw [V3.links_len]; omega) (by rw [V3.links_len]; omega)
        (on_gives b1 b2 b3 b4 W.heap.size d 1 m (d.y).toNat W hd (by decide) m0 m1 h1 (by omega) hb1 hb2 hb3 hb4 (Nat.le_refl _) ho)
set_option maxRecDepth 100000 in set_option maxHeartbeats 4000000 in
theorem wire_Line_go2 (d : V3) (m : Int) (L : List Int) (w : World) (h : d.askE 2 m = 0)
    (HOn : Hid (∀ W, Calls Try.prog 40 #[.agg #[.int .i64 d.x, .int .i64 d.y, .int .i64 d.z], .int .i64 2, .int .i64 m, .int .i64 d.z] W fun e w' => e = .returned (.func (.func 61) #[] #[.pointer (some ⟨W.heap.size + 1 + 1 + 1, 0, none⟩), .pointer (some ⟨W.heap.size, 0, none⟩), .pointer (some ⟨W.heap.size + 1 + 1, 0, none⟩), .pointer (some ⟨W.heap.size + 1, 0, none⟩)]) ∧
      OnAt w' (W.heap.size + 1 + 1 + 1) W.heap.size (W.heap.size + 1 + 1) (W.heap.size + 1) d 2 m (d.z).toNat ∧ W.heap.size + 1 + 1 + 1 < w'.heap.size ∧ Below W.heap.size W w'))
    (HS : Hid (∀ b1 b2 b3 b4 W, b1 < W.heap.size → b2 < W.heap.size → b3 < W.heap.size → b4 < W.heap.size → OnAt W b1 b2 b3 b4 d 2 m (d.z).toNat →
      Calls Try.prog 39 #[.func (.func 61) #[] #[.pointer (some ⟨b1, 0, none⟩), .pointer (some ⟨b2, 0, none⟩), .pointer (some ⟨b3, 0, none⟩), .pointer (some ⟨b4, 0, none⟩)]] W (RL W L))) :
    Calls Try.prog 16 #[.agg #[.int .i64 d.x, .int .i64 d.y, .int .i64 d.z], .int .i64 2, .int .i64 m] w (RLE w L 0) := by
  have HA := Lib.hid (fun W => by have := wire_asked d 2 m W; rw [h] at this; exact this)
  clear h
  go_enter Try.func16, Try.ntmps16
  go_wp2_with fail
  refine (HA.out _).mono ?_
  rintro e w1 ⟨rfl, hb1⟩
  have BD := Lib.hid (((Blk.new w 23 #[.int .i64 d.x, .int .i64 d.y, .int .i64 d.z]).below hb1).dims)
  have HB := Lib.hid (below_then (show Below w.heap.size w (w.alloc (.cells #[.int .i64 d.x, .int .i64 d.y, .int .i64 d.z] 23)) by (repeat (first | (with_reducible exact Below.refl _ _) | (with_reducible assumption) | (with_reducible refine below_alloc ?_ _) | (with_reducible refine below_drewN ?_ _) | (with_reducible refine Below.drew ?_) | (with_reducible refine below_then ?_ (by with_reducible assumption)) | (with_reducible refine Below.setCell ?_ (by go_size) _)))) hb1)
  clear hb1
  have hlt := BD.out.lt
  obtain ⟨d0, d1, d2⟩ := BD.out
  go_wp2_with fail
  have mixed : Try.prog.follows .mixedOrders = true := by kernel_rfl
  go_region_held3 (fun W => W.cell? ⟨w.heap.size, 0, none⟩ = some (.int .i64 d.x) ∧ W.cell? ⟨w.heap.size, 1, none⟩ = some (.int .i64 d.y) ∧ W.cell? ⟨w.heap.size, 2, none⟩ = some (.int .i64 d.z)) (go_keep)
    (first
      | (go_at_call 40; refine (HOn.out _).mono ?_; rintro e wa ⟨rfl, hon, hlt2, hba⟩; have HX := Lib.hid hon; clear hon; have HBa := Lib.hid (below_then (show Below w1.heap.size w1 _ by (repeat (first | (with_reducible exact Below.refl _ _) | (with_reducible assumption) | (with_reducible refine below_alloc ?_ _) | (with_reducible refine below_drewN ?_ _) | (with_reducible refine Below.drew ?_) | (with_reducible refine below_then ?_ (by with_reducible assumption)) | (with_reducible refine Below.setCell ?_ (by go_size) _)))) hba); clear hba; obtain ⟨d0', d1', d2'⟩ := BD.out.keep HBa.out BD.out.lt)
      | (go_at_call 39; refine (HS.out _ _ _ _ _ (by omega) (by omega) (by omega) (by omega) HX.out).mono ?_; rintro e wb ⟨v, rfl, ho, hbb⟩; obtain ⟨d0', d1', d2'⟩ := (BD.out.keep HBa.out BD.out.lt).keep hbb (Nat.lt_of_lt_of_le BD.out.lt HBa.out.size); have HBb := Lib.hid (HBa.out.trans (hbb.mono HBa.out.size)); have HO := Lib.hid (own_mono ho HBa.out.size); clear ho hbb))
  all_goals go_wp2_with fail
  all_goals go_returns
  all_goals exact ⟨_, rfl, own_mono HO.out HB.out.size, below_then HB.out HBb.out⟩
set_option maxRecDepth 100000 in set_option maxHeartbeats 4000000 in
theorem wire_Line_ax2 (d : V3) (m : Int) (w : World) (h : d.askE 2 m = 0) :
    Calls Try.prog 16 #[.agg #[.int .i64 d.x, .int .i64 d.y, .int .i64 d.z], .int .i64 2, .int .i64 m] w (RLE w (d.lineV 2 m) 0) := by
  obtain ⟨hd, _, m0, m1⟩ := V3.askE_0 h
  have hdd := hd
  unfold V3.may at hdd
  have eg : ∀ args w, (callFunc 61 args).run Try.prog w = .ok (.enter 61 args) w := enters_of Try.func61 (by kernel_rfl) rfl
  have hcast : (((d.z).toNat : Nat) : Int) = d.z := by omega
  refine wire_Line_go2 d m (d.lineV 2 m) w h (Lib.hid fun W => ?_) (Lib.hid ?_)
  · have := wire_on d 2 m (d.z).toNat W
    rw [hcast] at this
    exact this
  · intro b1 b2 b3 b4 W hb1 hb2 hb3 hb4 ho
    by_cases h1 : d.z = 1
    · rw [show d.lineV 2 m = [] from if_neg (fun h => h.2 h1)]
      rw [show (d.z).toNat = 1 by omega] at ho
      exact slices_Sorted0 _ _ eg W (on_gives0 b1 b2 b3 b4 W.heap.size d 2 m W hd (by decide) m0 m1 h1 hb1 hb2 hb3 hb4 (Nat.le_refl _) ho)
    · rw [show d.lineV 2 m = sorted (d.links 2 m (d.z).toNat) from if_pos ⟨h, h1⟩]
      exact slices_Sorted _ _ eg (d.links 2 m (d.z).toNat) W (by rw [V3.links_len]; omega) (by rw [V3.links_len]; omega)
        (on_gives b1 b2 b3 b4 W.heap.size d 2 m (d.z).toNat W hd (by decide) m0 m1 h1 (by omega) hb1 hb2 hb3 hb4 (Nat.le_refl _) ho)
theorem wire_Line (d : V3) (axis m : Int) (w : World) :
    Calls Try.prog 16 #[.agg #[.int .i64 d.x, .int .i64 d.y, .int .i64 d.z], .int .i64 axis, .int .i64 m] w (RLE w (d.lineV axis m) (d.askE axis m)) := by
  by_cases h : d.askE axis m = 0
  · obtain ⟨_, hr, _⟩ := V3.askE_0 h
    have hc : axis = 0 ∨ axis = 1 ∨ axis = 2 := by omega
    rcases hc with rfl | rfl | rfl
    · rw [h]; exact wire_Line_ax0 d m w h
    · rw [h]; exact wire_Line_ax1 d m w h
    · rw [h]; exact wire_Line_ax2 d m w h
  · rw [show d.lineV axis m = [] from if_neg (fun h2 => h h2.1)]
    exact wire_Line_bad d axis m w h
end Go.Proofs.Ytpooieghlceefaa
