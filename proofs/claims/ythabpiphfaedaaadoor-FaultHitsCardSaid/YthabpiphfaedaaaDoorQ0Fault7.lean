/- FAULT: together; what may not be taken; what a place stands on. -/
import Derived.Test.YthabpiphfaedaaaDoorQ7FaultHits
namespace Go.Proofs.YthabpiphfaedaaaDoor

section
open Go.RowKit Go.Shelf

theorem rd_newC (w : World) (cs : Array Value) (t : TypeId) : Rd (w.alloc (.cells cs t)) (some ⟨w.heap.size, 0, none⟩) cs.toList := by
  intro k v hk
  have hb := Blk.new w t cs
  exact ⟨w.heap.size, 0, rfl, by rw [Nat.zero_add]; exact hb.cell k v (by simpa using hk)⟩
def togE (n : Int) (ls : List LL) : Int := if allM n ls then ofErr n (flatL ls) else 8
def togV (n : Int) (ls : List LL) : List Nat := if allM n ls then ofSet n (flatL ls) else []
set_option maxRecDepth 100000 in set_option maxHeartbeats 4000000 in
theorem fault_together (n : Int) (base : Option Addr) (cap : Nat) (ls : List LL) (w : World) (hl : LLIn w base ls) (h9 : (flatL ls).length ≤ 1000000) :
    Calls Tryd.prog 73 #[.int .i64 n, .slice base ls.length cap] w (RUE w (togV n ls) (togE n ls)) := by
  have HC := Lib.hid (fun W q (h : Below w.heap.size w W) (hq : Blk W q 3 #[.int .i64 n]) => lists_contains n base cap ls q 3 W (hl.keep h) hq)
  have HK := Lib.hid (fun W (h : Below w.heap.size w W) => slices_Concat base cap ls W (hl.keep h) h9)
  have HO := Lib.hid (fun bl cl W (h : LIn W bl (flatL ls)) => set_Of n bl cl (flatL ls) W h)
  have eg : ∀ args w, (callFunc 100 args).run Tryd.prog w = .ok (.enter 100 args) w := enters_of Tryd.func100 (by kernel_rfl) rfl
  have hEV : togE n ls = (if allM n ls then ofErr n (flatL ls) else 8) ∧ togV n ls = (if allM n ls then ofSet n (flatL ls) else []) := ⟨rfl, rfl⟩
  clear hl
  cases hm : allM n ls with
  | false =>
    rw [hm] at HC hEV
    obtain ⟨hE, hV⟩ := hEV
    rw [if_neg (by decide)] at hE hV
    rw [hE, hV]
    clear hE hV hm
    go_enter Tryd.func73, Tryd.ntmps73
    go_wp2_with fail
    refine (HC.out _ w.heap.size (by (repeat (first | (with_reducible exact Below.refl _ _) | (with_reducible assumption) | (with_reducible refine below_alloc ?_ _) | (with_reducible refine below_drewN ?_ _) | (with_reducible refine Below.drew ?_) | (with_reducible refine below_then ?_ (by with_reducible assumption)) | (with_reducible refine Below.setCell ?_ (by go_size) _)))) (Blk.new ..)).mono ?_
    rintro e w1 ⟨rfl, hb⟩
    have HB := Lib.hid (below_then (show Below w.heap.size w (w.alloc (.cells #[.int .i64 n] 3)) by (repeat (first | (with_reducible exact Below.refl _ _) | (with_reducible assumption) | (with_reducible refine below_alloc ?_ _) | (with_reducible refine below_drewN ?_ _) | (with_reducible refine Below.drew ?_) | (with_reducible refine below_then ?_ (by with_reducible assumption)) | (with_reducible refine Below.setCell ?_ (by go_size) _)))) hb)
    clear hb
    go_wp2_with fail
    go_returns
    exact ⟨_, rfl, World.ownsRow_nil _ _ _ _, HB.out⟩
  | true =>
    rw [hm] at HC hEV
    obtain ⟨hE, hV⟩ := hEV
    rw [if_pos rfl] at hE hV
    rw [hE, hV]
    clear hE hV hm
    generalize flatL ls = F at *
    generalize ofSet n F = O at *
    generalize ofErr n F = E at *
    go_enter Tryd.func73, Tryd.ntmps73
    go_wp2_with fail
    refine (HC.out _ w.heap.size (by (repeat (first | (with_reducible exact Below.refl _ _) | (with_reducible assumption) | (with_reducible refine below_alloc ?_ _) | (with_reducible refine below_drewN ?_ _) | (with_reducible refine Below.drew ?_) | (with_reducible refine below_then ?_ (by with_reducible assumption)) | (with_reducible refine Below.setCell ?_ (by go_size) _)))) (Blk.new ..)).mono ?_
    rintro e w1 ⟨rfl, hb⟩
    have HB := Lib.hid (below_then (show Below w.heap.size w (w.alloc (.cells #[.int .i64 n] 3)) by (repeat (first | (with_reducible exact Below.refl _ _) | (with_reducible assumption) | (with_reducible refine below_alloc ?_ _) | (with_reducible refine below_drewN ?_ _) | (with_reducible refine Below.drew ?_) | (with_reducible refine below_then ?_ (by with_reducible assumption)) | (with_reducible refine Below.setCell ?_ (by go_size) _)))) hb)
    have BN := Lib.hid ((Blk.new w 3 #[.int .i64 n]).below hb)
    have zs := HB.out.size
    have bl := BN.out.lt
    clear hb
    go_wp2_with fail
    have HK1 := Lib.hid (fun W (h : Below w1.heap.size w1 W) => HK.out W (below_then HB.out h))
    have n0 : w1.cell? ⟨w.heap.size, 0, none⟩ = some (.int .i64 n) := BN.out.cell 0 _ rfl
    have mixed : Tryd.prog.follows .mixedOrders = true := by kernel_rfl
    go_region_held3 (fun W => W.cell? ⟨w.heap.size, 0, none⟩ = some (.int .i64 n)) (go_keep)
      (first
        | ((with_reducible refine (HK1.out _ (by (repeat (first | (with_reducible exact Below.refl _ _) | (with_reducible assumption) | (with_reducible refine below_alloc ?_ _) | (with_reducible refine below_drewN ?_ _) | (with_reducible refine Below.drew ?_) | (with_reducible refine below_then ?_ (by with_reducible assumption)) | (with_reducible refine Below.setCell ?_ (by go_size) _))))).mono ?_); rintro e wa ⟨va, rfl, hoa, hba⟩; obtain ⟨ba, ca, rfl, la, _⟩ := list_of_own hoa (by omega); have hza := hba.size; (try simp at hza); have HBa := below_then (show Below w1.heap.size w1 _ by (repeat (first | (with_reducible exact Below.refl _ _) | (with_reducible assumption) | (with_reducible refine below_alloc ?_ _) | (with_reducible refine below_drewN ?_ _) | (with_reducible refine Below.drew ?_) | (with_reducible refine below_then ?_ (by with_reducible assumption)) | (with_reducible refine Below.setCell ?_ (by go_size) _)))) hba; have n0 := (BN.out.below HBa).cell 0 _ rfl)
        | ((with_reducible refine (HO.out ba ca _ (la.keep (by (repeat (first | (with_reducible exact Below.refl _ _) | (with_reducible assumption) | (with_reducible refine below_alloc ?_ _) | (with_reducible refine below_drewN ?_ _) | (with_reducible refine Below.drew ?_) | (with_reducible refine below_then ?_ (by with_reducible assumption)) | (with_reducible refine Below.setCell ?_ (by go_size) _)))))).mono ?_); rintro e wb ⟨vb, rfl, hob, hbb⟩; have hzb := hbb.size; (try simp at hzb); have HBb := below_then (show Below w1.heap.size w1 _ by (repeat (first | (with_reducible exact Below.refl _ _) | (with_reducible assumption) | (with_reducible refine below_alloc ?_ _) | (with_reducible refine below_drewN ?_ _) | (with_reducible refine Below.drew ?_) | (with_reducible refine below_then ?_ (by with_reducible assumption)) | (with_reducible refine Below.setCell ?_ (by go_size) _)))) hbb; have n0 := (BN.out.below HBb).cell 0 _ rfl))
    all_goals go_wp2_with fail
    all_goals go_returns
    all_goals exact ⟨_, rfl, own_mono hob (by omega), below_then HB.out HBb⟩
/-- Lists of lists that were just laid. -/
theorem ll_one (w : World) (t : TypeId) (x : LL) (h : IIn w x.b x.l) (hn : x.b = none → x.l.length = 0 ∧ x.c = 0) : LLIn (w.alloc (.cells #[x.v] t)) (some ⟨w.heap.size, 0, none⟩) [x] := by
  refine ⟨rd_newC w #[x.v] t, fun y hy => ?_, fun y hy => ?_, by simp⟩
  · simp at hy; subst hy; exact h.keep (by (repeat (first | (with_reducible exact Below.refl _ _) | (with_reducible assumption) | (with_reducible refine below_alloc ?_ _) | (with_reducible refine below_drewN ?_ _) | (with_reducible refine Below.drew ?_) | (with_reducible refine below_then ?_ (by with_reducible assumption)) | (with_reducible refine Below.setCell ?_ (by go_size) _))))
  · simp at hy; subst hy; exact hn
theorem ll_two (w : World) (t : TypeId) (x y : LL) (hx : IIn w x.b x.l) (hy : IIn w y.b y.l) (nx : x.b = none → x.l.length = 0 ∧ x.c = 0) (ny : y.b = none → y.l.length = 0 ∧ y.c = 0) :
    LLIn (w.alloc (.cells #[x.v, y.v] t)) (some ⟨w.heap.size, 0, none⟩) [x, y] := by
  refine ⟨rd_newC w #[x.v, y.v] t, fun z hz => ?_, fun z hz => ?_, by simp⟩
  · simp at hz
    rcases hz with rfl | rfl
    · exact hx.keep (by (repeat (first | (with_reducible exact Below.refl _ _) | (with_reducible assumption) | (with_reducible refine below_alloc ?_ _) | (with_reducible refine below_drewN ?_ _) | (with_reducible refine Below.drew ?_) | (with_reducible refine below_then ?_ (by with_reducible assumption)) | (with_reducible refine Below.setCell ?_ (by go_size) _))))
    · exact hy.keep (by (repeat (first | (with_reducible exact Below.refl _ _) | (with_reducible assumption) | (with_reducible refine below_alloc ?_ _) | (with_reducible refine below_drewN ?_ _) | (with_reducible refine Below.drew ?_) | (with_reducible refine below_then ?_ (by with_reducible assumption)) | (with_reducible refine Below.setCell ?_ (by go_size) _))))
  · simp at hz
    rcases hz with rfl | rfl
    · exact nx
    · exact ny
theorem tog_one {n : Int} {c : List Int} (b : Option Addr) (k : Nat) : togE n [⟨b, k, c⟩] = (if mk n (-1) c then ofErr n c else 8) ∧ togV n [⟨b, k, c⟩] = (if mk n (-1) c then ofSet n c else []) := by
  unfold togE togV allM flatL
  simp
theorem tog_two {n : Int} {a c : List Int} (b b2 : Option Addr) (k k2 : Nat) : togE n [⟨b, k, a⟩, ⟨b2, k2, c⟩] = (if mk n (-1) a && mk n (-1) c then ofErr n (a ++ c) else 8) ∧ togV n [⟨b, k, a⟩, ⟨b2, k2, c⟩] = (if mk n (-1) a && mk n (-1) c then ofSet n (a ++ c) else []) := by
  unfold togE togV allM flatL
  simp
set_option maxRecDepth 100000 in set_option maxHeartbeats 4000000 in
theorem fault_Bad (d : V3) (ba bb bc : Option Addr) (ca cb cc : Nat) (a b c : List Int) (w : World) (ha : IIn w ba a) (hb : IIn w bb b) (hc : IIn w bc c)
    (na : ba = none → a.length = 0 ∧ ca = 0) (nb : bb = none → b.length = 0 ∧ cb = 0) (nc : bc = none → c.length = 0 ∧ cc = 0) :
    Calls Tryd.prog 39 #[.agg #[.int .i64 d.x, .int .i64 d.y, .int .i64 d.z], .slice ba a.length ca, .slice bb b.length cb, .slice bc c.length cc] w (RPS w (badN d a b c) (badL d a b c) (badE d a b c)) := by
  have HP := Lib.hid (fun W => pos_Many d W)
  have hE : badE d a b c = (if d.may then (if (mk d.n (-1) a && mk d.n (-1) b) && mk (3 * d.n) (-1) c then 0 else 8) else 8) := rfl
  by_cases hd : d.may
  · rw [if_pos hd] at hE
    have hnn := V3.n_le hd
    have hnm := fb_nMay hd
    rw [V3.many_ok hd, V3.err_ok hd] at HP
    have T1 := Lib.hid (fun W (h : Below w.heap.size w W) => show Calls Tryd.prog 73 #[.int .i64 d.n, .slice (some ⟨W.heap.size, 0, none⟩) 2 2] (W.alloc (.cells #[.slice ba a.length ca, .slice bb b.length cb] 38)) (RUE (W.alloc (.cells #[.slice ba a.length ca, .slice bb b.length cb] 38)) (if mk d.n (-1) a && mk d.n (-1) b then ofSet d.n (a ++ b) else []) (if mk d.n (-1) a && mk d.n (-1) b then ofErr d.n (a ++ b) else 8)) from by
      have hh := fault_together d.n _ 2 _ _ (ll_two W 38 ⟨ba, ca, a⟩ ⟨bb, cb, b⟩ (ha.keep h) (hb.keep h) na nb) (by have := ha.len; have := hb.len; simp [flatL]; omega)
      rw [(tog_two ba bb ca cb).1, (tog_two ba bb ca cb).2] at hh
      exact hh)
    have T2 := Lib.hid (fun W (h : Below w.heap.size w W) => show Calls Tryd.prog 73 #[.int .i64 (3 * d.n), .slice (some ⟨W.heap.size, 0, none⟩) 1 1] (W.alloc (.cells #[.slice bc c.length cc] 38)) (RUE (W.alloc (.cells #[.slice bc c.length cc] 38)) (if mk (3 * d.n) (-1) c then ofSet (3 * d.n) c else []) (if mk (3 * d.n) (-1) c then ofErr (3 * d.n) c else 8)) from by
      have hh := fault_together (3 * d.n) _ 1 _ _ (ll_one W 38 ⟨bc, cc, c⟩ (hc.keep h) nc) (by have := hc.len; simp [flatL]; omega)
      rw [(tog_one bc cc).1, (tog_one bc cc).2] at hh
      exact hh)
    have hN : badN d a b c = (if badE d a b c = 0 then ofSet d.n (a ++ b) else []) := rfl
    have hL : badL d a b c = (if badE d a b c = 0 then ofSet (3 * d.n) c else []) := rfl
    have hl1 := ha.len
    have hl2 := hb.len
    have hl3 := hc.len
    clear ha hb hc na nb nc
    cases h12 : (mk d.n (-1) a && mk d.n (-1) b) with
    | false =>
      rw [h12] at T1 hE
      rw [Bool.false_and, if_neg (by decide)] at hE
      rw [hE, if_neg (by decide)] at hN hL
      simp only [Bool.false_eq_true, if_false] at T1
      rw [hN, hL, hE]
      clear hN hL hE h12 T2 hd hnm
      generalize d.n = n at *
      go_enter Tryd.func39, Tryd.ntmps39
      go_wp2_with fail
      refine (HP.out _).mono ?_
      rintro e w1 ⟨rfl, hb1⟩
      have HB := Lib.hid (below_then (show Below w.heap.size w (w.alloc (.cells #[.int .i64 d.x, .int .i64 d.y, .int .i64 d.z] 23)) by (repeat (first | (with_reducible exact Below.refl _ _) | (with_reducible assumption) | (with_reducible refine below_alloc ?_ _) | (with_reducible refine below_drewN ?_ _) | (with_reducible refine Below.drew ?_) | (with_reducible refine below_then ?_ (by with_reducible assumption)) | (with_reducible refine Below.setCell ?_ (by go_size) _)))) hb1)
      clear hb1
      go_wp2_with fail
      refine (T1.out w1 HB.out).mono ?_
      rintro e w2 ⟨v2, rfl, _, hb2⟩
      have HB2 := Lib.hid (below_then HB.out (below_then (show Below w1.heap.size w1 _ by (repeat (first | (with_reducible exact Below.refl _ _) | (with_reducible assumption) | (with_reducible refine below_alloc ?_ _) | (with_reducible refine below_drewN ?_ _) | (with_reducible refine Below.drew ?_) | (with_reducible refine below_then ?_ (by with_reducible assumption)) | (with_reducible refine Below.setCell ?_ (by go_size) _)))) hb2))
      clear hb2
      go_wp2_with fail
      go_returns
      exact ⟨_, _, rfl, World.ownsRow_nil _ _ _ _, World.ownsRow_nil _ _ _ _, HB2.out⟩
    | true =>
      rw [h12] at T1 hE
      rw [Bool.true_and] at hE
      have e1 : ofErr d.n (a ++ b) = 0 := by
        rw [Bool.and_eq_true] at h12
        refine of_ok hnm.1 (by rw [List.length_append]; omega) (fun x hx => ?_)
        rcases List.mem_append.1 hx with h | h
        · exact mk_in h12.1 x h
        · exact mk_in h12.2 x h
      simp only [if_true, e1] at T1
      cases h3 : mk (3 * d.n) (-1) c with
      | false =>
        rw [h3] at T2 hE
        rw [if_neg (by decide)] at hE
        rw [hE, if_neg (by decide)] at hN hL
        simp only [Bool.false_eq_true, if_false] at T2
        rw [hN, hL, hE]
        clear hN hL hE h12 h3 hd hnm e1
        generalize ofSet d.n (a ++ b) = O1 at *
        generalize d.n = n at *
        go_enter Tryd.func39, Tryd.ntmps39
        go_wp2_with fail
        refine (HP.out _).mono ?_
        rintro e w1 ⟨rfl, hb1⟩
        have HB := Lib.hid (below_then (show Below w.heap.size w (w.alloc (.cells #[.int .i64 d.x, .int .i64 d.y, .int .i64 d.z] 23)) by (repeat (first | (with_reducible exact Below.refl _ _) | (with_reducible assumption) | (with_reducible refine below_alloc ?_ _) | (with_reducible refine below_drewN ?_ _) | (with_reducible refine Below.drew ?_) | (with_reducible refine below_then ?_ (by with_reducible assumption)) | (with_reducible refine Below.setCell ?_ (by go_size) _)))) hb1)
        clear hb1
        go_wp2_with fail
        refine (T1.out w1 HB.out).mono ?_
        rintro e w2 ⟨v2, rfl, _, hb2⟩
        have HB2 := Lib.hid (below_then HB.out (below_then (show Below w1.heap.size w1 _ by (repeat (first | (with_reducible exact Below.refl _ _) | (with_reducible assumption) | (with_reducible refine below_alloc ?_ _) | (with_reducible refine below_drewN ?_ _) | (with_reducible refine Below.drew ?_) | (with_reducible refine below_then ?_ (by with_reducible assumption)) | (with_reducible refine Below.setCell ?_ (by go_size) _)))) hb2))
        clear hb2
        go_wp2_with fail
        refine (T2.out w2 HB2.out).mono ?_
        rintro e w3 ⟨v3, rfl, _, hb3⟩
        have HB3 := Lib.hid (below_then HB2.out (below_then (show Below w2.heap.size w2 _ by (repeat (first | (with_reducible exact Below.refl _ _) | (with_reducible assumption) | (with_reducible refine below_alloc ?_ _) | (with_reducible refine below_drewN ?_ _) | (with_reducible refine Below.drew ?_) | (with_reducible refine below_then ?_ (by with_reducible assumption)) | (with_reducible refine Below.setCell ?_ (by go_size) _)))) hb3))
        clear hb3
        go_wp2_with fail
        go_returns
        exact ⟨_, _, rfl, World.ownsRow_nil _ _ _ _, World.ownsRow_nil _ _ _ _, HB3.out⟩
      | true =>
        have e2 : ofErr (3 * d.n) c = 0 := of_ok hnm.2 (by omega) (mk_in h3)
        rw [h3] at T2 hE
        rw [if_pos rfl] at hE
        rw [if_pos hE] at hN hL
        simp only [if_true, e2] at T2
        rw [hN, hL, hE]
        clear hN hL hE h12 h3 hd hnm e1 e2
        generalize ofSet d.n (a ++ b) = O1 at *
        generalize ofSet (3 * d.n) c = O2 at *
        generalize d.n = n at *
        go_enter Tryd.func39, Tryd.ntmps39
        go_wp2_with fail
        refine (HP.out _).mono ?_
        rintro e w1 ⟨rfl, hb1⟩
        have HB := Lib.hid (below_then (show Below w.heap.size w (w.alloc (.cells #[.int .i64 d.x, .int .i64 d.y, .int .i64 d.z] 23)) by (repeat (first | (with_reducible exact Below.refl _ _) | (with_reducible assumption) | (with_reducible refine below_alloc ?_ _) | (with_reducible refine below_drewN ?_ _) | (with_reducible refine Below.drew ?_) | (with_reducible refine below_then ?_ (by with_reducible assumption)) | (with_reducible refine Below.setCell ?_ (by go_size) _)))) hb1)
        clear hb1
        go_wp2_with fail
        refine (T1.out w1 HB.out).mono ?_
        rintro e w2 ⟨v2, rfl, o2, hb2⟩
        have HB2 := Lib.hid (below_then HB.out (below_then (show Below w1.heap.size w1 _ by (repeat (first | (with_reducible exact Below.refl _ _) | (with_reducible assumption) | (with_reducible refine below_alloc ?_ _) | (with_reducible refine below_drewN ?_ _) | (with_reducible refine Below.drew ?_) | (with_reducible refine below_then ?_ (by with_reducible assumption)) | (with_reducible refine Below.setCell ?_ (by go_size) _)))) hb2))
        have HO2 := Lib.hid (own_mono (base' := w.heap.size) o2 (by have := HB.out.size; simp; omega))
        clear hb2 o2
        go_wp2_with fail
        refine (T2.out w2 HB2.out).mono ?_
        rintro e w3 ⟨v3, rfl, o3, hb3⟩
        have hb3' := below_then (show Below w2.heap.size w2 _ by (repeat (first | (with_reducible exact Below.refl _ _) | (with_reducible assumption) | (with_reducible refine below_alloc ?_ _) | (with_reducible refine below_drewN ?_ _) | (with_reducible refine Below.drew ?_) | (with_reducible refine below_then ?_ (by with_reducible assumption)) | (with_reducible refine Below.setCell ?_ (by go_size) _)))) hb3
        have HB3 := Lib.hid (below_then HB2.out hb3')
        have HO3 := Lib.hid (own_mono (base' := w.heap.size) o3 (by have := HB2.out.size; simp; omega))
        have HO2 := Lib.hid (own_keep HO2.out hb3')
        clear hb3 o3 hb3'
        go_wp2_with fail
        go_returns
        exact ⟨_, _, rfl, HO2.out, HO3.out, HB3.out⟩
  · have hN : badN d a b c = [] := if_neg (by rw [hE, if_neg hd]; decide)
    have hL : badL d a b c = [] := if_neg (by rw [hE, if_neg hd]; decide)
    rw [if_neg hd] at hE
    rw [hN, hL, hE]
    rw [V3.err_no hd, V3.many_no hd] at HP
    clear ha hb hc na nb nc hN hL hE hd
    go_enter Tryd.func39, Tryd.ntmps39
    go_wp2_with ((with_reducible refine (HP.out _).mono ?_); rintro e w1 ⟨rfl, hb1⟩; (obtain ⟨hc1, hf1⟩ := bcell hb1; have hz1 := hb1.size; (try simp at hz1); have hB : Below w.heap.size w w1 := (by (repeat (first | (with_reducible exact Below.refl _ _) | (with_reducible assumption) | (with_reducible refine below_alloc ?_ _) | (with_reducible refine below_drewN ?_ _) | (with_reducible refine Below.drew ?_) | (with_reducible refine below_then ?_ (by with_reducible assumption)) | (with_reducible refine Below.setCell ?_ (by go_size) _)))); obtain ⟨hcB, hfB⟩ := bcell hB; (try have z0 : w.heap.size < w1.heap.size := by omega); (try have z1 : w.heap.size + 1 < w1.heap.size := by omega); (try have z2 : w.heap.size + 2 < w1.heap.size := by omega); (try have z3 : w.heap.size + 3 < w1.heap.size := by omega)))
    all_goals
      go_returns
      exact ⟨_, _, rfl, World.ownsRow_nil _ _ _ _, World.ownsRow_nil _ _ _ _, by (repeat (first | (with_reducible exact Below.refl _ _) | (with_reducible assumption) | (with_reducible refine below_alloc ?_ _) | (with_reducible refine below_drewN ?_ _) | (with_reducible refine Below.drew ?_) | (with_reducible refine below_then ?_ (by with_reducible assumption)) | (with_reducible refine Below.setCell ?_ (by go_size) _)))⟩
end
end Go.Proofs.YthabpiphfaedaaaDoor
