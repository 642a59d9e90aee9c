/- YARDS: as they lie; whether they are great, may be, are the same. -/
import Derived.Test.YtofoenlhbmammaaGreatQ3F11
import Derived.Test.YtofoenlhbmammaaGreatQ4F11
import Derived.Test.YtofoenlhbmammaaGreatQ5F11
import Derived.Test.YtofoenlhbmammaaGreatQ0PosNF11
import Derived.Test.YtofoenlhbmammaaGreatQ0PlaceAF11
import Derived.Test.YtofoenlhbmammaaGreatQ10F11
import Derived.Test.YtofoenlhbmammaaGreatQ11F11
set_option linter.unusedVariables false
set_option linter.unusedSimpArgs false
namespace Go.Proofs.YtofoenlhbmammaaGreat

section
section
open Go.RowKit Go.Shelf

/-- A list of calendars that came in, as it lies. -/
structure CR (w : World) (base : Option Addr) (ns : List (List Sl)) : Prop where
  ex : ∃ vs : List Value, Rd w base vs ∧ ∀ (i : Nat) (c : List Sl), ns[i]? = some c → ∃ b cap, vs[i]? = some (Value.slice b c.length cap) ∧ Rd w b (slc c) ∧ c.length ≤ cap ∧ (b = none → cap = 0)
theorem CR.keep {w W : World} {base : Option Addr} {ns : List (List Sl)} (h : CR w base ns) (hb : Below w.heap.size w W) : CR W base ns := by
  obtain ⟨vs, h1, h2⟩ := h.ex
  refine ⟨vs, h1.keep hb, fun i c hc => ?_⟩
  obtain ⟨b, cap, h3, h4, h5⟩ := h2 i c hc
  exact ⟨b, cap, h3, h4.keep hb, h5⟩
theorem CR.at {w : World} {base : Option Addr} {ns : List (List Sl)} (h : CR w base ns) {i : Nat} {c : List Sl} (hc : ns[i]? = some c) :
    ∃ g o b cap, base = some ⟨g, o, none⟩ ∧ w.cell? ⟨g, o + i, none⟩ = some (Value.slice b c.length cap) ∧ g < w.heap.size ∧ Rd w b (slc c) ∧ c.length ≤ cap ∧ (b = none → cap = 0) := by
  obtain ⟨vs, h1, h2⟩ := h.ex
  obtain ⟨b, cap, h3, h4, h5, h6⟩ := h2 i c hc
  obtain ⟨g, o, e, h7⟩ := h1 i _ h3
  exact ⟨g, o, b, cap, e, h7, World.block_lt_of_cell? w _ h7, h4, h5, h6⟩
/-- Calendars that are not great. -/
structure CC (w : World) (base : Option Addr) (ns : List (List Sl)) : Prop where
  rd : CR w base ns
  many : ns.length ≤ 1000
  small : ∀ c ∈ ns, c.length ≤ 10000
theorem CC.keep {w W : World} {base : Option Addr} {ns : List (List Sl)} (h : CC w base ns) (hb : Below w.heap.size w W) : CC W base ns := ⟨h.rd.keep hb, h.many, h.small⟩
theorem CC.at {w : World} {base : Option Addr} {ns : List (List Sl)} (h : CC w base ns) {i : Nat} {c : List Sl} (hc : ns[i]? = some c) :
    ∃ g o b cap, base = some ⟨g, o, none⟩ ∧ w.cell? ⟨g, o + i, none⟩ = some (Value.slice b c.length cap) ∧ g < w.heap.size ∧ CIn w b c ∧ c.length ≤ cap ∧ (b = none → cap = 0) := by
  obtain ⟨g, o, b, cap, h1, h2, h3, h4, h5, h6⟩ := h.rd.at hc
  have := h.small c (List.mem_of_getElem? hc)
  exact ⟨g, o, b, cap, h1, h2, h3, ⟨h4, by omega⟩, h5, h6⟩
/-- A list of calendars' slice, whole. -/
structure LLS (w : World) (v : Value) (ns : List (List Sl)) : Prop where
  ex : ∃ base cap, v = .slice base ns.length cap ∧ CC w base ns
theorem LLS.keep {w W : World} {v : Value} {ns : List (List Sl)} (h : LLS w v ns) (hb : Below w.heap.size w W) : LLS W v ns := by
  obtain ⟨base, cap, e, h1⟩ := h.ex
  exact ⟨base, cap, e, h1.keep hb⟩

/-! ### great -/
def tot (ns : List (List Sl)) : Nat := (ns.map List.length).sum
def totTo (ns : List (List Sl)) (k : Nat) : Nat := tot (ns.take k)
theorem totTo_succ {ns : List (List Sl)} {k : Nat} {c : List Sl} (h : ns[k]? = some c) : totTo ns (k + 1) = totTo ns k + c.length := by
  unfold totTo tot
  rw [List.take_add_one, h]
  simp
theorem totTo_all (ns : List (List Sl)) : totTo ns ns.length = tot ns := by unfold totTo; rw [List.take_length]
theorem sum_le (ns : List (List Sl)) (B : Nat) (h : ∀ c ∈ ns, c.length ≤ B) : tot ns ≤ ns.length * B := by
  induction ns with
  | nil => simp [tot]
  | cons c ns ih =>
    have h1 := h c (List.mem_cons_self ..)
    have h2 := ih (fun c hc => h c (List.mem_cons_of_mem _ hc))
    unfold tot at *
    simp only [List.map_cons, List.sum_cons, List.length_cons]
    rw [Nat.add_mul]
    omega
theorem totTo_le {ns : List (List Sl)} {k : Nat} (h : ∀ c ∈ ns, c.length ≤ 6000000000000) (hn : ns.length ≤ 600) : totTo ns k ≤ 3600000000000000 := by
  have h1 := sum_le (ns.take k) 6000000000000 (fun c hc => h c (List.mem_of_mem_take hc))
  have h2 : (ns.take k).length ≤ 600 := by rw [List.length_take]; omega
  have h3 := Nat.mul_le_mul_right 6000000000000 h2
  unfold totTo
  omega
def greatB (ns ls : List (List Sl)) : Bool := decide (200 < ns.length) || (decide (600 < ls.length) || decide (10000 < tot ns + tot ls))
theorem mem_tot {ns : List (List Sl)} {c : List Sl} (h : c ∈ ns) : c.length ≤ tot ns := by
  induction ns with
  | nil => cases h
  | cons x ns ih =>
    unfold tot at *
    simp only [List.map_cons, List.sum_cons]
    rcases List.mem_cons.1 h with rfl | h
    · omega
    · have := ih h; omega
theorem great_no {ns ls : List (List Sl)} (h : greatB ns ls = false) : (ns.length ≤ 200 ∧ ∀ c ∈ ns, c.length ≤ 10000) ∧ (ls.length ≤ 600 ∧ ∀ c ∈ ls, c.length ≤ 10000) ∧ tot ns + tot ls ≤ 10000 := by
  unfold greatB at h
  rw [Bool.or_eq_false_iff, Bool.or_eq_false_iff, decide_eq_false_iff_not, decide_eq_false_iff_not, decide_eq_false_iff_not] at h
  exact ⟨⟨by omega, fun c hc => by have := mem_tot hc; omega⟩, ⟨by omega, fun c hc => by have := mem_tot hc; omega⟩, by omega⟩
set_option maxRecDepth 100000 in set_option maxHeartbeats 4000000 in
theorem ref09_Great (d : V3) (bn bl : Option Addr) (cn cl : Nat) (ns ls : List (List Sl)) (w : World) (hn : CR w bn ns) (hl : CR w bl ls) (n9 : ns.length ≤ 6000000000000) (l9 : ls.length ≤ 6000000000000)
    (hns : ∀ c ∈ ns, c.length ≤ 6000000000000) (hls : ∀ c ∈ ls, c.length ≤ 6000000000000) :
    Calls Tryz.prog 8 #[.agg #[.int .i64 d.x, .int .i64 d.y, .int .i64 d.z, (.slice bn ns.length cn), (.slice bl ls.length cl)]] w (RB w (.bool (greatB ns ls))) := by
  obtain ⟨W0, hW0⟩ : ∃ W0, W0 = w.alloc (.cells #[.int .i64 d.x, .int .i64 d.y, .int .i64 d.z, (.slice bn ns.length cn), (.slice bl ls.length cl)] 26) := ⟨_, rfl⟩
  have hb0 : Below w.heap.size w W0 := by rw [hW0]; (repeat (first | (with_reducible exact Below.refl _ _) | (with_reducible assumption) | (with_reducible refine below_alloc ?_ _) | (with_reducible refine below_drewN ?_ _) | (with_reducible refine Below.drew ?_) | (with_reducible refine below_then ?_ (by with_reducible assumption)) | (with_reducible refine Below.setCell ?_ (by go_size) _)))
  have YB := Lib.hid (show Blk W0 w.heap.size 26 #[.int .i64 d.x, .int .i64 d.y, .int .i64 d.z, (.slice bn ns.length cn), (.slice bl ls.length cl)] by rw [hW0]; exact Blk.new ..)
  have HN := Lib.hid (hn.keep hb0)
  have HL := Lib.hid (hl.keep hb0)
  have HB := Lib.hid hb0
  have HW := Lib.hid hW0
  have HNs := Lib.hid hns
  have HLs := Lib.hid hls
  have HTn := Lib.hid (fun (k : Nat) (c : List Sl) (h : ns[k]? = some c) => totTo_succ h)
  have HTl := Lib.hid (fun (k : Nat) (c : List Sl) (h : ls[k]? = some c) => totTo_succ h)
  have HSn := Lib.hid (fun k (h : ns.length ≤ 600) => totTo_le (k := k) hns h)
  have HSl := Lib.hid (fun k (h : ls.length ≤ 600) => totTo_le (k := k) hls h)
  clear hn hl hb0 hW0 hns hls
  go_enter Tryz.func8, Tryz.ntmps8
  go_wp2_with fail
  rw [← HW.out]
  go_loopw [3, 4] (fun v i wr => ∃ (k : Nat) (m : Int), k ≤ ns.length ∧ i = .int .i64 k ∧ v = .int .i64 m ∧ (ns.length ≤ 600 → m = totTo ns k) ∧ wr = W0) (fun _ i _ => ns.length - (intOf i).toNat)
  case atStart => exact ⟨0, 0, Nat.zero_le _, rfl, rfl, fun _ => by simp [totTo, tot], rfl⟩
  case round =>
    obtain ⟨k, m, hk, rfl, rfl, hm, hw⟩ := hrel
    have hw := hw.symm
    subst hw
    have HM := Lib.hid hm
    clear hm
    have y3 := YB.out.cell 3 _ rfl
    have y4 := YB.out.cell 4 _ rfl
    by_cases hlt : k < ns.length
    · obtain ⟨c, hc⟩ : ∃ c, ns[k]? = some c := ⟨_, List.getElem?_eq_getElem hlt⟩
      obtain ⟨g, o, b, cap, e, hcell, _⟩ := HN.out.at hc
      subst e
      have HT := Lib.hid (HTn.out k c hc)
      have HC9 := Lib.hid (HNs.out c (List.mem_of_getElem? hc))
      clear hc
      go_wp2_with fail
      go_roundw
      case rel =>
        refine ⟨k + 1, _, by omega, by go_num, rfl, fun h => ?_, by first | rfl | trivial⟩
        have h1 := HM.out h
        have h2 := HT.out
        have h3 := HC9.out
        have h4 := HSn.out (k + 1) h
        rw [IntWalk.wrap64_in _ (by omega)]; omega
      case measure => (simp [intOf] <;> omega)
    · obtain rfl : k = ns.length := by omega
      clear hk hlt
      go_wp2_with fail
      go_loopw [3, 5] (fun v i wx => ∃ (k : Nat) (m : Int), k ≤ ls.length ∧ i = .int .i64 k ∧ v = .int .i64 m ∧ (ns.length ≤ 600 → ls.length ≤ 600 → m = totTo ns ns.length + totTo ls k) ∧ wx = W0) (fun _ i _ => ls.length - (intOf i).toNat)
      case atStart => exact ⟨0, m, Nat.zero_le _, rfl, rfl, fun h _ => by rw [HM.out h]; simp [totTo, tot], rfl⟩
      case round =>
        obtain ⟨k, m2, hk, rfl, rfl, hm, hw⟩ := hrel
        have HM2 := Lib.hid hm
        clear hm
        have hw := hw.symm
        subst hw
        by_cases hlt : k < ls.length
        · obtain ⟨c, hc⟩ : ∃ c, ls[k]? = some c := ⟨_, List.getElem?_eq_getElem hlt⟩
          obtain ⟨g, o, b, cap, e, hcell, _⟩ := HL.out.at hc
          subst e
          have HT := Lib.hid (HTl.out k c hc)
          have HC9 := Lib.hid (HLs.out c (List.mem_of_getElem? hc))
          clear hc
          go_wp2_with fail
          go_roundw
          case rel =>
            refine ⟨k + 1, _, by omega, by go_num, rfl, fun h h' => ?_, by first | rfl | trivial⟩
            have h1 := HM2.out h h'
            have h2 := HT.out
            have h3 := HC9.out
            have h4 := HSn.out ns.length h
            have h5 := HSl.out (k + 1) h'
            rw [IntWalk.wrap64_in _ (by omega)]; omega
          case measure => (simp [intOf] <;> omega)
        · obtain rfl : k = ls.length := by omega
          clear hk hlt
          by_cases h1 : 200 < ns.length
          · have HR := Lib.hid (show greatB ns ls = true by unfold greatB; rw [decide_eq_true h1]; rfl)
            go_wp2_with fail
            go_returns
            exact ⟨by rw [HR.out]; rfl, HB.out⟩
          by_cases h2 : 600 < ls.length
          · have HR := Lib.hid (show greatB ns ls = true by unfold greatB; rw [decide_eq_true h2]; simp)
            go_wp2_with fail
            go_returns
            exact ⟨by rw [HR.out]; rfl, HB.out⟩
          have e := HM2.out (by omega) (by omega)
          rw [totTo_all, totTo_all] at e
          by_cases h3 : 10000 < tot ns + tot ls
          · have HR := Lib.hid (show greatB ns ls = true by unfold greatB; rw [decide_eq_true h3]; simp)
            have h4 : decide (10000 < m2) = true := decide_eq_true (by omega)
            clear e h3
            go_wp2_with fail
            go_returns
            exact ⟨by rw [HR.out]; rfl, HB.out⟩
          · have HR := Lib.hid (show greatB ns ls = false by unfold greatB; rw [decide_eq_false h1, decide_eq_false h2, decide_eq_false h3]; rfl)
            have h4 : decide (10000 < m2) = false := decide_eq_false (by omega)
            clear e h3
            go_wp2_with fail
            go_returns
            exact ⟨by rw [HR.out]; first | rfl | (simp; omega), HB.out⟩
end

section
open Go.RowKit Go.Shelf

set_option maxRecDepth 100000 in set_option maxHeartbeats 4000000 in
theorem ref09_mays (bn : Option Addr) (cn : Nat) (ns : List (List Sl)) (w : World) (hn : CC w bn ns) :
    Calls Tryz.prog 76 #[.slice bn ns.length cn] w (RB w (.bool (ns.all calOk))) := by
  have HN := Lib.hid hn
  have hm := hn.many
  clear hn
  go_enter Tryz.func76, Tryz.ntmps76
  go_wp2_with fail
  go_loopw [3] (fun i wr => ∃ k : Nat, k ≤ ns.length ∧ i = .int .i64 k ∧ (ns.take k).all calOk = true ∧ Below w.heap.size w wr) (fun i _ => ns.length - (intOf i).toNat)
  case atStart => exact ⟨0, Nat.zero_le _, rfl, by simp, by (repeat (first | (with_reducible exact Below.refl _ _) | (with_reducible assumption) | (with_reducible refine below_alloc ?_ _) | (with_reducible refine below_drewN ?_ _) | (with_reducible refine Below.drew ?_) | (with_reducible refine below_then ?_ (by with_reducible assumption)) | (with_reducible refine Below.setCell ?_ (by go_size) _)))⟩
  case round =>
    obtain ⟨k, hk, rfl, h0, hbel⟩ := hrel
    have H0 := Lib.hid h0
    have HB := Lib.hid hbel
    clear h0 hbel
    by_cases hlt : k < ns.length
    · obtain ⟨c, hc⟩ : ∃ c, ns[k]? = some c := ⟨_, List.getElem?_eq_getElem hlt⟩
      obtain ⟨g, o, b, cap, e, hcell, hgl, hcs, _⟩ := (HN.out.keep HB.out).at hc
      subst e
      have hck : ns[k] = c := by rw [List.getElem?_eq_getElem hlt] at hc; exact Option.some.inj hc
      cases hok : calOk c with
      | true =>
        have HM := Lib.hid (Calls.rb_eq (ref08_May b cap c wr hcs) (show Value.bool (calOk c) = _ by rw [hok]))
        have H1 := Lib.hid (all_takes hlt H0.out (by rw [hck]; exact hok))
        clear hcs hc hck hok
        go_wp2_with ((with_reducible refine (HM.out).mono ?_); rintro e w1 ⟨rfl, hb1⟩; (obtain ⟨hc1, hf1⟩ := bcell hb1; have hz1 := hb1.size; (try simp at hz1)))
        go_roundw
        case rel => exact ⟨k + 1, by omega, by go_num, H1.out, below_then HB.out hb1⟩
        case measure => (simp [intOf] <;> omega)
      | false =>
        have HM := Lib.hid (Calls.rb_eq (ref08_May b cap c wr hcs) (show Value.bool (calOk c) = _ by rw [hok]))
        have hno : ns.all calOk = false := by
          rw [List.all_eq_false]
          exact ⟨c, List.mem_of_getElem? hc, by rw [hok]; decide⟩
        have HNo := Lib.hid hno
        clear hcs hc hck hok hno
        go_wp2_with ((with_reducible refine (HM.out).mono ?_); rintro e w1 ⟨rfl, hb1⟩; (obtain ⟨hc1, hf1⟩ := bcell hb1; have hz1 := hb1.size; (try simp at hz1)))
        go_returns
        exact ⟨by (first | (rw [HNo.out]; done) | (rw [HNo.out]; rfl) | (rw [HNo.out]; simp; done)), below_then HB.out hb1⟩
    · obtain rfl : k = ns.length := by omega
      have HY := Lib.hid (show ns.all calOk = true by have := H0.out; rw [List.take_length] at this; exact this)
      go_wp2_with fail
      go_returns
      exact ⟨by (first | (rw [HY.out]; done) | (rw [HY.out]; rfl) | (rw [HY.out]; simp; done)), HB.out⟩

/-- Dimensions, midplanes' calendars, cables' calendars. -/
structure Yd where
  d : V3
  ns : List (List Sl)
  ls : List (List Sl)
def Yd.okB (y : Yd) : Bool := decide y.d.may && (decide ((y.ns.length : Int) = y.d.n) && (decide ((y.ls.length : Int) = 3 * y.d.n) && (y.ns.all calOk && y.ls.all calOk)))

set_option maxRecDepth 100000 in set_option maxHeartbeats 4000000 in
theorem ref09_May (d : V3) (bn bl : Option Addr) (cn cl : Nat) (ns ls : List (List Sl)) (w : World) (hn : CC w bn ns) (hl : CC w bl ls) :
    Calls Tryz.prog 40 #[.agg #[.int .i64 d.x, .int .i64 d.y, .int .i64 d.z, (.slice bn ns.length cn), (.slice bl ls.length cl)]] w (RB w (.bool (Yd.okB ⟨d, ns, ls⟩))) := by
  have h9 := hn.many
  have h8 := hl.many
  have M3 := Lib.hid (fun W (h : Below w.heap.size w W) => ref09_mays bn cn ns W (hn.keep h))
  have M4 := Lib.hid (fun W (h : Below w.heap.size w W) => ref09_mays bl cl ls W (hl.keep h))
  have M1 := Lib.hid (fun W => ref01_May d W)
  clear hn hl
  by_cases h1 : d.may
  · have hM1 := decide_eq_true h1
    rw [hM1] at M1
    have M2 := Lib.hid (fun W => ref01_N d W h1)
    obtain ⟨hn0, hn1⟩ := V3.n_le h1
    obtain ⟨q, hq⟩ : ∃ q, q = d.n := ⟨_, rfl⟩
    rw [← hq] at M2 hn0 hn1
    by_cases h2 : (ns.length : Int) = q
    · have e2 : ((ns.length : Int) == q) = true := by simpa using h2
      by_cases h3 : (ls.length : Int) = 3 * q
      · have e3 : ((ls.length : Int) == 3 * q) = true := by simpa using h3
        cases h4 : ns.all calOk with
        | true =>
          have HR := Lib.hid (show Yd.okB ⟨d, ns, ls⟩ = ls.all calOk by unfold Yd.okB; simp only; rw [hM1, ← hq, decide_eq_true h2, decide_eq_true h3, h4]; rfl)
          rw [h4] at M3
          generalize ls.all calOk = z at *
          clear h1 h2 h3 h4 hM1 hq
          (go_enter Tryz.func40, Tryz.ntmps40; go_wp2_with (first | ((with_reducible refine (M1.out _).mono ?_); rintro e w1 ⟨rfl, hb1⟩; (obtain ⟨hc1, hf1⟩ := bcell hb1; have hz1 := hb1.size; (try simp at hz1); have hB : Below w.heap.size w w1 := (by (repeat (first | (with_reducible exact Below.refl _ _) | (with_reducible assumption) | (with_reducible refine below_alloc ?_ _) | (with_reducible refine below_drewN ?_ _) | (with_reducible refine Below.drew ?_) | (with_reducible refine below_then ?_ (by with_reducible assumption)) | (with_reducible refine Below.setCell ?_ (by go_size) _)))); obtain ⟨hcB, hfB⟩ := bcell hB; (try have z0 : w.heap.size < w1.heap.size := by omega); (try have z1 : w.heap.size + 1 < w1.heap.size := by omega); (try have z2 : w.heap.size + 2 < w1.heap.size := by omega); (try have z3 : w.heap.size + 3 < w1.heap.size := by omega))) | ((with_reducible refine (M2.out _).mono ?_); rintro e w1 ⟨rfl, hb1⟩; (obtain ⟨hc1, hf1⟩ := bcell hb1; have hz1 := hb1.size; (try simp at hz1); have hB : Below w.heap.size w w1 := (by (repeat (first | (with_reducible exact Below.refl _ _) | (with_reducible assumption) | (with_reducible refine below_alloc ?_ _) | (with_reducible refine below_drewN ?_ _) | (with_reducible refine Below.drew ?_) | (with_reducible refine below_then ?_ (by with_reducible assumption)) | (with_reducible refine Below.setCell ?_ (by go_size) _)))); obtain ⟨hcB, hfB⟩ := bcell hB; (try have z0 : w.heap.size < w1.heap.size := by omega); (try have z1 : w.heap.size + 1 < w1.heap.size := by omega); (try have z2 : w.heap.size + 2 < w1.heap.size := by omega); (try have z3 : w.heap.size + 3 < w1.heap.size := by omega))) | ((with_reducible refine (M3.out _ (by (repeat (first | (with_reducible exact Below.refl _ _) | (with_reducible assumption) | (with_reducible refine below_alloc ?_ _) | (with_reducible refine below_drewN ?_ _) | (with_reducible refine Below.drew ?_) | (with_reducible refine below_then ?_ (by with_reducible assumption)) | (with_reducible refine Below.setCell ?_ (by go_size) _))))).mono ?_); rintro e w1 ⟨rfl, hb1⟩; (obtain ⟨hc1, hf1⟩ := bcell hb1; have hz1 := hb1.size; (try simp at hz1); have hB : Below w.heap.size w w1 := (by (repeat (first | (with_reducible exact Below.refl _ _) | (with_reducible assumption) | (with_reducible refine below_alloc ?_ _) | (with_reducible refine below_drewN ?_ _) | (with_reducible refine Below.drew ?_) | (with_reducible refine below_then ?_ (by with_reducible assumption)) | (with_reducible refine Below.setCell ?_ (by go_size) _)))); obtain ⟨hcB, hfB⟩ := bcell hB; (try have z0 : w.heap.size < w1.heap.size := by omega); (try have z1 : w.heap.size + 1 < w1.heap.size := by omega); (try have z2 : w.heap.size + 2 < w1.heap.size := by omega); (try have z3 : w.heap.size + 3 < w1.heap.size := by omega))) | ((with_reducible refine (M4.out _ (by (repeat (first | (with_reducible exact Below.refl _ _) | (with_reducible assumption) | (with_reducible refine below_alloc ?_ _) | (with_reducible refine below_drewN ?_ _) | (with_reducible refine Below.drew ?_) | (with_reducible refine below_then ?_ (by with_reducible assumption)) | (with_reducible refine Below.setCell ?_ (by go_size) _))))).mono ?_); rintro e w1 ⟨rfl, hb1⟩; (obtain ⟨hc1, hf1⟩ := bcell hb1; have hz1 := hb1.size; (try simp at hz1); have hB : Below w.heap.size w w1 := (by (repeat (first | (with_reducible exact Below.refl _ _) | (with_reducible assumption) | (with_reducible refine below_alloc ?_ _) | (with_reducible refine below_drewN ?_ _) | (with_reducible refine Below.drew ?_) | (with_reducible refine below_then ?_ (by with_reducible assumption)) | (with_reducible refine Below.setCell ?_ (by go_size) _)))); obtain ⟨hcB, hfB⟩ := bcell hB; (try have z0 : w.heap.size < w1.heap.size := by omega); (try have z1 : w.heap.size + 1 < w1.heap.size := by omega); (try have z2 : w.heap.size + 2 < w1.heap.size := by omega); (try have z3 : w.heap.size + 3 < w1.heap.size := by omega)))); go_returns; exact ⟨by (first | (rw [HR.out]; done) | (rw [HR.out]; rfl) | (rw [HR.out]; simp; done)), by (repeat (first | (with_reducible exact Below.refl _ _) | (with_reducible assumption) | (with_reducible refine below_alloc ?_ _) | (with_reducible refine below_drewN ?_ _) | (with_reducible refine Below.drew ?_) | (with_reducible refine below_then ?_ (by with_reducible assumption)) | (with_reducible refine Below.setCell ?_ (by go_size) _)))⟩)
        | false =>
          have HR := Lib.hid (show Yd.okB ⟨d, ns, ls⟩ = false by unfold Yd.okB; simp only; rw [h4]; simp)
          rw [h4] at M3
          clear h1 h2 h3 h4 hM1 hq
          (go_enter Tryz.func40, Tryz.ntmps40; go_wp2_with (first | ((with_reducible refine (M1.out _).mono ?_); rintro e w1 ⟨rfl, hb1⟩; (obtain ⟨hc1, hf1⟩ := bcell hb1; have hz1 := hb1.size; (try simp at hz1); have hB : Below w.heap.size w w1 := (by (repeat (first | (with_reducible exact Below.refl _ _) | (with_reducible assumption) | (with_reducible refine below_alloc ?_ _) | (with_reducible refine below_drewN ?_ _) | (with_reducible refine Below.drew ?_) | (with_reducible refine below_then ?_ (by with_reducible assumption)) | (with_reducible refine Below.setCell ?_ (by go_size) _)))); obtain ⟨hcB, hfB⟩ := bcell hB; (try have z0 : w.heap.size < w1.heap.size := by omega); (try have z1 : w.heap.size + 1 < w1.heap.size := by omega); (try have z2 : w.heap.size + 2 < w1.heap.size := by omega); (try have z3 : w.heap.size + 3 < w1.heap.size := by omega))) | ((with_reducible refine (M2.out _).mono ?_); rintro e w1 ⟨rfl, hb1⟩; (obtain ⟨hc1, hf1⟩ := bcell hb1; have hz1 := hb1.size; (try simp at hz1); have hB : Below w.heap.size w w1 := (by (repeat (first | (with_reducible exact Below.refl _ _) | (with_reducible assumption) | (with_reducible refine below_alloc ?_ _) | (with_reducible refine below_drewN ?_ _) | (with_reducible refine Below.drew ?_) | (with_reducible refine below_then ?_ (by with_reducible assumption)) | (with_reducible refine Below.setCell ?_ (by go_size) _)))); obtain ⟨hcB, hfB⟩ := bcell hB; (try have z0 : w.heap.size < w1.heap.size := by omega); (try have z1 : w.heap.size + 1 < w1.heap.size := by omega); (try have z2 : w.heap.size + 2 < w1.heap.size := by omega); (try have z3 : w.heap.size + 3 < w1.heap.size := by omega))) | ((with_reducible refine (M3.out _ (by (repeat (first | (with_reducible exact Below.refl _ _) | (with_reducible assumption) | (with_reducible refine below_alloc ?_ _) | (with_reducible refine below_drewN ?_ _) | (with_reducible refine Below.drew ?_) | (with_reducible refine below_then ?_ (by with_reducible assumption)) | (with_reducible refine Below.setCell ?_ (by go_size) _))))).mono ?_); rintro e w1 ⟨rfl, hb1⟩; (obtain ⟨hc1, hf1⟩ := bcell hb1; have hz1 := hb1.size; (try simp at hz1); have hB : Below w.heap.size w w1 := (by (repeat (first | (with_reducible exact Below.refl _ _) | (with_reducible assumption) | (with_reducible refine below_alloc ?_ _) | (with_reducible refine below_drewN ?_ _) | (with_reducible refine Below.drew ?_) | (with_reducible refine below_then ?_ (by with_reducible assumption)) | (with_reducible refine Below.setCell ?_ (by go_size) _)))); obtain ⟨hcB, hfB⟩ := bcell hB; (try have z0 : w.heap.size < w1.heap.size := by omega); (try have z1 : w.heap.size + 1 < w1.heap.size := by omega); (try have z2 : w.heap.size + 2 < w1.heap.size := by omega); (try have z3 : w.heap.size + 3 < w1.heap.size := by omega))) | ((with_reducible refine (M4.out _ (by (repeat (first | (with_reducible exact Below.refl _ _) | (with_reducible assumption) | (with_reducible refine below_alloc ?_ _) | (with_reducible refine below_drewN ?_ _) | (with_reducible refine Below.drew ?_) | (with_reducible refine below_then ?_ (by with_reducible assumption)) | (with_reducible refine Below.setCell ?_ (by go_size) _))))).mono ?_); rintro e w1 ⟨rfl, hb1⟩; (obtain ⟨hc1, hf1⟩ := bcell hb1; have hz1 := hb1.size; (try simp at hz1); have hB : Below w.heap.size w w1 := (by (repeat (first | (with_reducible exact Below.refl _ _) | (with_reducible assumption) | (with_reducible refine below_alloc ?_ _) | (with_reducible refine below_drewN ?_ _) | (with_reducible refine Below.drew ?_) | (with_reducible refine below_then ?_ (by with_reducible assumption)) | (with_reducible refine Below.setCell ?_ (by go_size) _)))); obtain ⟨hcB, hfB⟩ := bcell hB; (try have z0 : w.heap.size < w1.heap.size := by omega); (try have z1 : w.heap.size + 1 < w1.heap.size := by omega); (try have z2 : w.heap.size + 2 < w1.heap.size := by omega); (try have z3 : w.heap.size + 3 < w1.heap.size := by omega)))); go_returns; exact ⟨by (first | (rw [HR.out]; done) | (rw [HR.out]; rfl) | (rw [HR.out]; simp; done)), by (repeat (first | (with_reducible exact Below.refl _ _) | (with_reducible assumption) | (with_reducible refine below_alloc ?_ _) | (with_reducible refine below_drewN ?_ _) | (with_reducible refine Below.drew ?_) | (with_reducible refine below_then ?_ (by with_reducible assumption)) | (with_reducible refine Below.setCell ?_ (by go_size) _)))⟩)
      · have e3 : ((ls.length : Int) == 3 * q) = false := by simpa using h3
        have HR := Lib.hid (show Yd.okB ⟨d, ns, ls⟩ = false by unfold Yd.okB; simp only; rw [← hq, decide_eq_false h3]; simp)
        clear h1 h2 h3 hM1 hq
        (go_enter Tryz.func40, Tryz.ntmps40; go_wp2_with (first | ((with_reducible refine (M1.out _).mono ?_); rintro e w1 ⟨rfl, hb1⟩; (obtain ⟨hc1, hf1⟩ := bcell hb1; have hz1 := hb1.size; (try simp at hz1); have hB : Below w.heap.size w w1 := (by (repeat (first | (with_reducible exact Below.refl _ _) | (with_reducible assumption) | (with_reducible refine below_alloc ?_ _) | (with_reducible refine below_drewN ?_ _) | (with_reducible refine Below.drew ?_) | (with_reducible refine below_then ?_ (by with_reducible assumption)) | (with_reducible refine Below.setCell ?_ (by go_size) _)))); obtain ⟨hcB, hfB⟩ := bcell hB; (try have z0 : w.heap.size < w1.heap.size := by omega); (try have z1 : w.heap.size + 1 < w1.heap.size := by omega); (try have z2 : w.heap.size + 2 < w1.heap.size := by omega); (try have z3 : w.heap.size + 3 < w1.heap.size := by omega))) | ((with_reducible refine (M2.out _).mono ?_); rintro e w1 ⟨rfl, hb1⟩; (obtain ⟨hc1, hf1⟩ := bcell hb1; have hz1 := hb1.size; (try simp at hz1); have hB : Below w.heap.size w w1 := (by (repeat (first | (with_reducible exact Below.refl _ _) | (with_reducible assumption) | (with_reducible refine below_alloc ?_ _) | (with_reducible refine below_drewN ?_ _) | (with_reducible refine Below.drew ?_) | (with_reducible refine below_then ?_ (by with_reducible assumption)) | (with_reducible refine Below.setCell ?_ (by go_size) _)))); obtain ⟨hcB, hfB⟩ := bcell hB; (try have z0 : w.heap.size < w1.heap.size := by omega); (try have z1 : w.heap.size + 1 < w1.heap.size := by omega); (try have z2 : w.heap.size + 2 < w1.heap.size := by omega); (try have z3 : w.heap.size + 3 < w1.heap.size := by omega))) | ((with_reducible refine (M3.out _ (by (repeat (first | (with_reducible exact Below.refl _ _) | (with_reducible assumption) | (with_reducible refine below_alloc ?_ _) | (with_reducible refine below_drewN ?_ _) | (with_reducible refine Below.drew ?_) | (with_reducible refine below_then ?_ (by with_reducible assumption)) | (with_reducible refine Below.setCell ?_ (by go_size) _))))).mono ?_); rintro e w1 ⟨rfl, hb1⟩; (obtain ⟨hc1, hf1⟩ := bcell hb1; have hz1 := hb1.size; (try simp at hz1); have hB : Below w.heap.size w w1 := (by (repeat (first | (with_reducible exact Below.refl _ _) | (with_reducible assumption) | (with_reducible refine below_alloc ?_ _) | (with_reducible refine below_drewN ?_ _) | (with_reducible refine Below.drew ?_) | (with_reducible refine below_then ?_ (by with_reducible assumption)) | (with_reducible refine Below.setCell ?_ (by go_size) _)))); obtain ⟨hcB, hfB⟩ := bcell hB; (try have z0 : w.heap.size < w1.heap.size := by omega); (try have z1 : w.heap.size + 1 < w1.heap.size := by omega); (try have z2 : w.heap.size + 2 < w1.heap.size := by omega); (try have z3 : w.heap.size + 3 < w1.heap.size := by omega))) | ((with_reducible refine (M4.out _ (by (repeat (first | (with_reducible exact Below.refl _ _) | (with_reducible assumption) | (with_reducible refine below_alloc ?_ _) | (with_reducible refine below_drewN ?_ _) | (with_reducible refine Below.drew ?_) | (with_reducible refine below_then ?_ (by with_reducible assumption)) | (with_reducible refine Below.setCell ?_ (by go_size) _))))).mono ?_); rintro e w1 ⟨rfl, hb1⟩; (obtain ⟨hc1, hf1⟩ := bcell hb1; have hz1 := hb1.size; (try simp at hz1); have hB : Below w.heap.size w w1 := (by (repeat (first | (with_reducible exact Below.refl _ _) | (with_reducible assumption) | (with_reducible refine below_alloc ?_ _) | (with_reducible refine below_drewN ?_ _) | (with_reducible refine Below.drew ?_) | (with_reducible refine below_then ?_ (by with_reducible assumption)) | (with_reducible refine Below.setCell ?_ (by go_size) _)))); obtain ⟨hcB, hfB⟩ := bcell hB; (try have z0 : w.heap.size < w1.heap.size := by omega); (try have z1 : w.heap.size + 1 < w1.heap.size := by omega); (try have z2 : w.heap.size + 2 < w1.heap.size := by omega); (try have z3 : w.heap.size + 3 < w1.heap.size := by omega)))); go_returns; exact ⟨by (first | (rw [HR.out]; done) | (rw [HR.out]; rfl) | (rw [HR.out]; simp; done)), by (repeat (first | (with_reducible exact Below.refl _ _) | (with_reducible assumption) | (with_reducible refine below_alloc ?_ _) | (with_reducible refine below_drewN ?_ _) | (with_reducible refine Below.drew ?_) | (with_reducible refine below_then ?_ (by with_reducible assumption)) | (with_reducible refine Below.setCell ?_ (by go_size) _)))⟩)
    · have e2 : ((ns.length : Int) == q) = false := by simpa using h2
      have HR := Lib.hid (show Yd.okB ⟨d, ns, ls⟩ = false by unfold Yd.okB; simp only; rw [← hq, decide_eq_false h2]; simp)
      clear h1 h2 hM1 hq
      (go_enter Tryz.func40, Tryz.ntmps40; go_wp2_with (first | ((with_reducible refine (M1.out _).mono ?_); rintro e w1 ⟨rfl, hb1⟩; (obtain ⟨hc1, hf1⟩ := bcell hb1; have hz1 := hb1.size; (try simp at hz1); have hB : Below w.heap.size w w1 := (by (repeat (first | (with_reducible exact Below.refl _ _) | (with_reducible assumption) | (with_reducible refine below_alloc ?_ _) | (with_reducible refine below_drewN ?_ _) | (with_reducible refine Below.drew ?_) | (with_reducible refine below_then ?_ (by with_reducible assumption)) | (with_reducible refine Below.setCell ?_ (by go_size) _)))); obtain ⟨hcB, hfB⟩ := bcell hB; (try have z0 : w.heap.size < w1.heap.size := by omega); (try have z1 : w.heap.size + 1 < w1.heap.size := by omega); (try have z2 : w.heap.size + 2 < w1.heap.size := by omega); (try have z3 : w.heap.size + 3 < w1.heap.size := by omega))) | ((with_reducible refine (M2.out _).mono ?_); rintro e w1 ⟨rfl, hb1⟩; (obtain ⟨hc1, hf1⟩ := bcell hb1; have hz1 := hb1.size; (try simp at hz1); have hB : Below w.heap.size w w1 := (by (repeat (first | (with_reducible exact Below.refl _ _) | (with_reducible assumption) | (with_reducible refine below_alloc ?_ _) | (with_reducible refine below_drewN ?_ _) | (with_reducible refine Below.drew ?_) | (with_reducible refine below_then ?_ (by with_reducible assumption)) | (with_reducible refine Below.setCell ?_ (by go_size) _)))); obtain ⟨hcB, hfB⟩ := bcell hB; (try have z0 : w.heap.size < w1.heap.size := by omega); (try have z1 : w.heap.size + 1 < w1.heap.size := by omega); (try have z2 : w.heap.size + 2 < w1.heap.size := by omega); (try have z3 : w.heap.size + 3 < w1.heap.size := by omega))) | ((with_reducible refine (M3.out _ (by (repeat (first | (with_reducible exact Below.refl _ _) | (with_reducible assumption) | (with_reducible refine below_alloc ?_ _) | (with_reducible refine below_drewN ?_ _) | (with_reducible refine Below.drew ?_) | (with_reducible refine below_then ?_ (by with_reducible assumption)) | (with_reducible refine Below.setCell ?_ (by go_size) _))))).mono ?_); rintro e w1 ⟨rfl, hb1⟩; (obtain ⟨hc1, hf1⟩ := bcell hb1; have hz1 := hb1.size; (try simp at hz1); have hB : Below w.heap.size w w1 := (by (repeat (first | (with_reducible exact Below.refl _ _) | (with_reducible assumption) | (with_reducible refine below_alloc ?_ _) | (with_reducible refine below_drewN ?_ _) | (with_reducible refine Below.drew ?_) | (with_reducible refine below_then ?_ (by with_reducible assumption)) | (with_reducible refine Below.setCell ?_ (by go_size) _)))); obtain ⟨hcB, hfB⟩ := bcell hB; (try have z0 : w.heap.size < w1.heap.size := by omega); (try have z1 : w.heap.size + 1 < w1.heap.size := by omega); (try have z2 : w.heap.size + 2 < w1.heap.size := by omega); (try have z3 : w.heap.size + 3 < w1.heap.size := by omega))) | ((with_reducible refine (M4.out _ (by (repeat (first | (with_reducible exact Below.refl _ _) | (with_reducible assumption) | (with_reducible refine below_alloc ?_ _) | (with_reducible refine below_drewN ?_ _) | (with_reducible refine Below.drew ?_) | (with_reducible refine below_then ?_ (by with_reducible assumption)) | (with_reducible refine Below.setCell ?_ (by go_size) _))))).mono ?_); rintro e w1 ⟨rfl, hb1⟩; (obtain ⟨hc1, hf1⟩ := bcell hb1; have hz1 := hb1.size; (try simp at hz1); have hB : Below w.heap.size w w1 := (by (repeat (first | (with_reducible exact Below.refl _ _) | (with_reducible assumption) | (with_reducible refine below_alloc ?_ _) | (with_reducible refine below_drewN ?_ _) | (with_reducible refine Below.drew ?_) | (with_reducible refine below_then ?_ (by with_reducible assumption)) | (with_reducible refine Below.setCell ?_ (by go_size) _)))); obtain ⟨hcB, hfB⟩ := bcell hB; (try have z0 : w.heap.size < w1.heap.size := by omega); (try have z1 : w.heap.size + 1 < w1.heap.size := by omega); (try have z2 : w.heap.size + 2 < w1.heap.size := by omega); (try have z3 : w.heap.size + 3 < w1.heap.size := by omega)))); go_returns; exact ⟨by (first | (rw [HR.out]; done) | (rw [HR.out]; rfl) | (rw [HR.out]; simp; done)), by (repeat (first | (with_reducible exact Below.refl _ _) | (with_reducible assumption) | (with_reducible refine below_alloc ?_ _) | (with_reducible refine below_drewN ?_ _) | (with_reducible refine Below.drew ?_) | (with_reducible refine below_then ?_ (by with_reducible assumption)) | (with_reducible refine Below.setCell ?_ (by go_size) _)))⟩)
  · have hM1 := decide_eq_false h1
    rw [hM1] at M1
    have M2 : True := trivial
    have HR := Lib.hid (show Yd.okB ⟨d, ns, ls⟩ = false by unfold Yd.okB; simp only; rw [hM1]; rfl)
    clear h1 hM1
    (go_enter Tryz.func40, Tryz.ntmps40; go_wp2_with ((with_reducible refine (M1.out _).mono ?_); rintro e w1 ⟨rfl, hb1⟩; (obtain ⟨hc1, hf1⟩ := bcell hb1; have hz1 := hb1.size; (try simp at hz1))); go_returns; exact ⟨by (first | (rw [HR.out]; done) | (rw [HR.out]; rfl) | (rw [HR.out]; simp; done)), by (repeat (first | (with_reducible exact Below.refl _ _) | (with_reducible assumption) | (with_reducible refine below_alloc ?_ _) | (with_reducible refine below_drewN ?_ _) | (with_reducible refine Below.drew ?_) | (with_reducible refine below_then ?_ (by with_reducible assumption)) | (with_reducible refine Below.setCell ?_ (by go_size) _)))⟩)
end

section
open Go.RowKit Go.Shelf

theorem same_takes {α : Type} {a b : List α} {k : Nat} {x y : α} (hx : a[k]? = some x) (hy : b[k]? = some y) (h : a.take k = b.take k) (e : x = y) : a.take (k + 1) = b.take (k + 1) := by
  rw [List.take_add_one, List.take_add_one, h, hx, hy, e]
set_option maxRecDepth 100000 in set_option maxHeartbeats 4000000 in
theorem ref09_lists (ba bb : Option Addr) (ca cb : Nat) (a b : List (List Sl)) (w : World) (ha : CC w ba a) (hb : CC w bb b) :
    Calls Tryz.prog 43 #[.slice ba a.length ca, .slice bb b.length cb] w (RB w (.bool (decide (a = b)))) := by
  have HA := Lib.hid ha
  have HB2 := Lib.hid hb
  have h9 := ha.many
  have h8 := hb.many
  clear ha hb
  by_cases hlen : a.length = b.length
  · have heq : ((a.length : Int) == (b.length : Int)) = true := beq_iff_eq.2 (by omega)
    have HL := Lib.hid hlen
    clear hlen
    go_enter Tryz.func43, Tryz.ntmps43
    go_wp2_with fail
    go_loopw [5] (fun i wr => ∃ k : Nat, k ≤ a.length ∧ i = .int .i64 k ∧ a.take k = b.take k ∧ Below w.heap.size w wr) (fun i _ => a.length - (intOf i).toNat)
    case atStart => exact ⟨0, Nat.zero_le _, rfl, by simp, by (repeat (first | (with_reducible exact Below.refl _ _) | (with_reducible assumption) | (with_reducible refine below_alloc ?_ _) | (with_reducible refine below_drewN ?_ _) | (with_reducible refine Below.drew ?_) | (with_reducible refine below_then ?_ (by with_reducible assumption)) | (with_reducible refine Below.setCell ?_ (by go_size) _)))⟩
    case round =>
      obtain ⟨k, hk, rfl, h0, hbel⟩ := hrel
      have H0 := Lib.hid h0
      have HB := Lib.hid hbel
      have hsz := hbel.size
      clear h0 hbel
      by_cases hlt : k < a.length
      · have hlt2 : k < b.length := by have := HL.out; omega
        obtain ⟨c, hc⟩ : ∃ c, a[k]? = some c := ⟨_, List.getElem?_eq_getElem hlt⟩
        obtain ⟨d, hd⟩ : ∃ d, b[k]? = some d := ⟨_, List.getElem?_eq_getElem hlt2⟩
        obtain ⟨g, o, p, cap, e, hcell, hgl, hcs, _⟩ := (HA.out.keep HB.out).at hc
        obtain ⟨g2, o2, p2, cap2, e2, hcell2, hgl2, hcs2, _⟩ := (HB2.out.keep HB.out).at hd
        subst e
        subst e2
        by_cases hcd : c = d
        · have HM := Lib.hid (fun (x : Aft wr) => Calls.aft_of (x := x) (Calls.rb_eq (ref08_Same p p2 cap cap2 c d x.to (hcs.keep x.h) (hcs2.keep x.h)) (show Value.bool (decide (c = d)) = .bool true by rw [decide_eq_true hcd])))
          have H1 := Lib.hid (same_takes hc hd H0.out hcd)
          clear hcs hcs2 hc hd hcd
          go_wp2_with (refine wp_region_aft (by kernel_rfl) (by kernel_rfl) ?_; (repeat (any_goals (first | go_big_quiet_step (with_reducible exact HM.out _) | quiet_step (with_reducible exact HM.out _) | (refine wpQuiet_step (fun K hK => ?_); go_simp; split <;> (refine hK _ ?_; clear hK K))))); all_goals (refine wpQuiet_nil ?_; intro wq hw'; obtain ⟨x1, hx1⟩ := hw'; have hbq := x1.h; rw [← hx1] at hbq; clear hx1 x1))
          all_goals
            go_roundw
            case rel => exact ⟨k + 1, by omega, by go_num, H1.out, below_then HB.out (by (repeat (first | (with_reducible exact Below.refl _ _) | (with_reducible assumption) | (with_reducible refine below_alloc ?_ _) | (with_reducible refine below_drewN ?_ _) | (with_reducible refine Below.drew ?_) | (with_reducible refine below_then ?_ (by with_reducible assumption)) | (with_reducible refine Below.setCell ?_ (by go_size) _))))⟩
            case measure => (simp [intOf] <;> omega)
        · have HM := Lib.hid (fun (x : Aft wr) => Calls.aft_of (x := x) (Calls.rb_eq (ref08_Same p p2 cap cap2 c d x.to (hcs.keep x.h) (hcs2.keep x.h)) (show Value.bool (decide (c = d)) = .bool false by rw [decide_eq_false hcd])))
          have HNo := Lib.hid (show decide (a = b) = false from decide_eq_false (fun e => by rw [e, hd] at hc; exact hcd (Option.some.inj hc).symm))
          clear hcs hcs2 hc hd hcd
          go_wp2_with (refine wp_region_aft (by kernel_rfl) (by kernel_rfl) ?_; (repeat (any_goals (first | go_big_quiet_step (with_reducible exact HM.out _) | quiet_step (with_reducible exact HM.out _) | (refine wpQuiet_step (fun K hK => ?_); go_simp; split <;> (refine hK _ ?_; clear hK K))))); all_goals (refine wpQuiet_nil ?_; intro wq hw'; obtain ⟨x1, hx1⟩ := hw'; have hbq := x1.h; rw [← hx1] at hbq; clear hx1 x1))
          all_goals
            go_returns
            exact ⟨by (first | (rw [HNo.out]; done) | (rw [HNo.out]; rfl) | (rw [HNo.out]; simp; done)), below_then HB.out (by (repeat (first | (with_reducible exact Below.refl _ _) | (with_reducible assumption) | (with_reducible refine below_alloc ?_ _) | (with_reducible refine below_drewN ?_ _) | (with_reducible refine Below.drew ?_) | (with_reducible refine below_then ?_ (by with_reducible assumption)) | (with_reducible refine Below.setCell ?_ (by go_size) _))))⟩
      · obtain rfl : k = a.length := by omega
        have HY := Lib.hid (show decide (a = b) = true by have := H0.out; rw [List.take_length, HL.out, List.take_length] at this; exact decide_eq_true this)
        go_wp2_with fail
        go_returns
        exact ⟨by (first | (rw [HY.out]; done) | (rw [HY.out]; rfl) | (rw [HY.out]; simp; done)), HB.out⟩
  · have heq : ((a.length : Int) == (b.length : Int)) = false := beq_eq_false_iff_ne.2 (by omega)
    have HNo := Lib.hid (show decide (a = b) = false from decide_eq_false (fun e => hlen (by rw [e])))
    clear hlen
    go_enter Tryz.func43, Tryz.ntmps43
    go_wp2_with fail
    go_returns
    exact ⟨by (first | (rw [HNo.out]; done) | (rw [HNo.out]; rfl) | (rw [HNo.out]; simp; done)), by (repeat (first | (with_reducible exact Below.refl _ _) | (with_reducible assumption) | (with_reducible refine below_alloc ?_ _) | (with_reducible refine below_drewN ?_ _) | (with_reducible refine Below.drew ?_) | (with_reducible refine below_then ?_ (by with_reducible assumption)) | (with_reducible refine Below.setCell ?_ (by go_size) _)))⟩
end

section
open Go.RowKit Go.Shelf

set_option maxRecDepth 100000 in set_option maxHeartbeats 4000000 in
theorem run_eql_dims (p q : V3) (w : World) : (binOp .eql 23 (.agg #[.int .i64 p.x, .int .i64 p.y, .int .i64 p.z]) (.agg #[.int .i64 q.x, .int .i64 q.y, .int .i64 q.z])).run Tryz.prog w = .ok (.bool (decide (p = q))) w := by
  rw [run_eql_struct, show (10000 : Nat) = 9998 + 1 + 1 from rfl, run_equal3 23 Tryz.underlying23 9998 p q w]
  rfl
def Yd.same (y z : Yd) : Bool := decide (y.d = z.d) && (decide (y.ns = z.ns) && decide (y.ls = z.ls))
theorem Yd.same_self (y : Yd) : y.same y = true := by unfold Yd.same; simp
set_option maxRecDepth 100000 in set_option maxHeartbeats 4000000 in
theorem ref09_Same (d e : V3) (bn bl bm bk : Option Addr) (cn cl cm ck : Nat) (ns ls ms ks : List (List Sl)) (w : World) (hn : CC w bn ns) (hl : CC w bl ls) (hm : CC w bm ms) (hk : CC w bk ks) :
    Calls Tryz.prog 17 #[.agg #[.int .i64 d.x, .int .i64 d.y, .int .i64 d.z, (.slice bn ns.length cn), (.slice bl ls.length cl)], .agg #[.int .i64 e.x, .int .i64 e.y, .int .i64 e.z, (.slice bm ms.length cm), (.slice bk ks.length ck)]] w (RB w (.bool (Yd.same ⟨d, ns, ls⟩ ⟨e, ms, ks⟩))) := by
  have M1 := Lib.hid (fun W (h : Below w.heap.size w W) => ref09_lists bn bm cn cm ns ms W (hn.keep h) (hm.keep h))
  have M2 := Lib.hid (fun W (h : Below w.heap.size w W) => ref09_lists bl bk cl ck ls ks W (hl.keep h) (hk.keep h))
  have hgd : Tryz.prog.eqGuardType Tryz.prog.depth 23 = false := by kernel_rfl
  clear hn hl hm hk
  cases h1 : decide (d = e) with
  | true =>
    have heq : ∀ w, (binOp .eql 23 (.agg #[.int .i64 d.x, .int .i64 d.y, .int .i64 d.z]) (.agg #[.int .i64 e.x, .int .i64 e.y, .int .i64 e.z])).run Tryz.prog w = .ok (.bool true) w := fun w => by rw [run_eql_dims, h1]
    cases h2 : decide (ns = ms) with
    | true =>
      have HR := Lib.hid (show Yd.same ⟨d, ns, ls⟩ ⟨e, ms, ks⟩ = decide (ls = ks) by unfold Yd.same; simp only; rw [h1, h2]; rfl)
      rw [h2] at M1
      generalize decide (ls = ks) = z at *
      clear h1 h2
      (go_enter Tryz.func17, Tryz.ntmps17; go_wp2_with (first | ((with_reducible refine (M1.out _ (by (repeat (first | (with_reducible exact Below.refl _ _) | (with_reducible assumption) | (with_reducible refine below_alloc ?_ _) | (with_reducible refine below_drewN ?_ _) | (with_reducible refine Below.drew ?_) | (with_reducible refine below_then ?_ (by with_reducible assumption)) | (with_reducible refine Below.setCell ?_ (by go_size) _))))).mono ?_); rintro e w1 ⟨rfl, hb1⟩; (obtain ⟨hc1, hf1⟩ := bcell hb1; have hz1 := hb1.size; (try simp at hz1); have hB : Below w.heap.size w w1 := (by (repeat (first | (with_reducible exact Below.refl _ _) | (with_reducible assumption) | (with_reducible refine below_alloc ?_ _) | (with_reducible refine below_drewN ?_ _) | (with_reducible refine Below.drew ?_) | (with_reducible refine below_then ?_ (by with_reducible assumption)) | (with_reducible refine Below.setCell ?_ (by go_size) _)))); obtain ⟨hcB, hfB⟩ := bcell hB; (try have z0 : w.heap.size < w1.heap.size := by omega); (try have z1 : w.heap.size + 1 < w1.heap.size := by omega); (try have z2 : w.heap.size + 2 < w1.heap.size := by omega); (try have z3 : w.heap.size + 3 < w1.heap.size := by omega))) | ((with_reducible refine (M2.out _ (by (repeat (first | (with_reducible exact Below.refl _ _) | (with_reducible assumption) | (with_reducible refine below_alloc ?_ _) | (with_reducible refine below_drewN ?_ _) | (with_reducible refine Below.drew ?_) | (with_reducible refine below_then ?_ (by with_reducible assumption)) | (with_reducible refine Below.setCell ?_ (by go_size) _))))).mono ?_); rintro e w1 ⟨rfl, hb1⟩; (obtain ⟨hc1, hf1⟩ := bcell hb1; have hz1 := hb1.size; (try simp at hz1); have hB : Below w.heap.size w w1 := (by (repeat (first | (with_reducible exact Below.refl _ _) | (with_reducible assumption) | (with_reducible refine below_alloc ?_ _) | (with_reducible refine below_drewN ?_ _) | (with_reducible refine Below.drew ?_) | (with_reducible refine below_then ?_ (by with_reducible assumption)) | (with_reducible refine Below.setCell ?_ (by go_size) _)))); obtain ⟨hcB, hfB⟩ := bcell hB; (try have z0 : w.heap.size < w1.heap.size := by omega); (try have z1 : w.heap.size + 1 < w1.heap.size := by omega); (try have z2 : w.heap.size + 2 < w1.heap.size := by omega); (try have z3 : w.heap.size + 3 < w1.heap.size := by omega)))); go_returns; exact ⟨by (first | (rw [HR.out]; done) | (rw [HR.out]; rfl) | (rw [HR.out]; simp; done)), by (repeat (first | (with_reducible exact Below.refl _ _) | (with_reducible assumption) | (with_reducible refine below_alloc ?_ _) | (with_reducible refine below_drewN ?_ _) | (with_reducible refine Below.drew ?_) | (with_reducible refine below_then ?_ (by with_reducible assumption)) | (with_reducible refine Below.setCell ?_ (by go_size) _)))⟩)
    | false =>
      have HR := Lib.hid (show Yd.same ⟨d, ns, ls⟩ ⟨e, ms, ks⟩ = false by unfold Yd.same; simp only; rw [h2]; simp)
      rw [h2] at M1
      clear h1 h2
      (go_enter Tryz.func17, Tryz.ntmps17; go_wp2_with (first | ((with_reducible refine (M1.out _ (by (repeat (first | (with_reducible exact Below.refl _ _) | (with_reducible assumption) | (with_reducible refine below_alloc ?_ _) | (with_reducible refine below_drewN ?_ _) | (with_reducible refine Below.drew ?_) | (with_reducible refine below_then ?_ (by with_reducible assumption)) | (with_reducible refine Below.setCell ?_ (by go_size) _))))).mono ?_); rintro e w1 ⟨rfl, hb1⟩; (obtain ⟨hc1, hf1⟩ := bcell hb1; have hz1 := hb1.size; (try simp at hz1); have hB : Below w.heap.size w w1 := (by (repeat (first | (with_reducible exact Below.refl _ _) | (with_reducible assumption) | (with_reducible refine below_alloc ?_ _) | (with_reducible refine below_drewN ?_ _) | (with_reducible refine Below.drew ?_) | (with_reducible refine below_then ?_ (by with_reducible assumption)) | (with_reducible refine Below.setCell ?_ (by go_size) _)))); obtain ⟨hcB, hfB⟩ := bcell hB; (try have z0 : w.heap.size < w1.heap.size := by omega); (try have z1 : w.heap.size + 1 < w1.heap.size := by omega); (try have z2 : w.heap.size + 2 < w1.heap.size := by omega); (try have z3 : w.heap.size + 3 < w1.heap.size := by omega))) | ((with_reducible refine (M2.out _ (by (repeat (first | (with_reducible exact Below.refl _ _) | (with_reducible assumption) | (with_reducible refine below_alloc ?_ _) | (with_reducible refine below_drewN ?_ _) | (with_reducible refine Below.drew ?_) | (with_reducible refine below_then ?_ (by with_reducible assumption)) | (with_reducible refine Below.setCell ?_ (by go_size) _))))).mono ?_); rintro e w1 ⟨rfl, hb1⟩; (obtain ⟨hc1, hf1⟩ := bcell hb1; have hz1 := hb1.size; (try simp at hz1); have hB : Below w.heap.size w w1 := (by (repeat (first | (with_reducible exact Below.refl _ _) | (with_reducible assumption) | (with_reducible refine below_alloc ?_ _) | (with_reducible refine below_drewN ?_ _) | (with_reducible refine Below.drew ?_) | (with_reducible refine below_then ?_ (by with_reducible assumption)) | (with_reducible refine Below.setCell ?_ (by go_size) _)))); obtain ⟨hcB, hfB⟩ := bcell hB; (try have z0 : w.heap.size < w1.heap.size := by omega); (try have z1 : w.heap.size + 1 < w1.heap.size := by omega); (try have z2 : w.heap.size + 2 < w1.heap.size := by omega); (try have z3 : w.heap.size + 3 < w1.heap.size := by omega)))); go_returns; exact ⟨by (first | (rw [HR.out]; done) | (rw [HR.out]; rfl) | (rw [HR.out]; simp; done)), by (repeat (first | (with_reducible exact Below.refl _ _) | (with_reducible assumption) | (with_reducible refine below_alloc ?_ _) | (with_reducible refine below_drewN ?_ _) | (with_reducible refine Below.drew ?_) | (with_reducible refine below_then ?_ (by with_reducible assumption)) | (with_reducible refine Below.setCell ?_ (by go_size) _)))⟩)
  | false =>
    have heq : ∀ w, (binOp .eql 23 (.agg #[.int .i64 d.x, .int .i64 d.y, .int .i64 d.z]) (.agg #[.int .i64 e.x, .int .i64 e.y, .int .i64 e.z])).run Tryz.prog w = .ok (.bool false) w := fun w => by rw [run_eql_dims, h1]
    have HR := Lib.hid (show Yd.same ⟨d, ns, ls⟩ ⟨e, ms, ks⟩ = false by unfold Yd.same; simp only; rw [h1]; rfl)
    clear h1
    (go_enter Tryz.func17, Tryz.ntmps17; go_wp2_with (first | ((with_reducible refine (M1.out _ (by (repeat (first | (with_reducible exact Below.refl _ _) | (with_reducible assumption) | (with_reducible refine below_alloc ?_ _) | (with_reducible refine below_drewN ?_ _) | (with_reducible refine Below.drew ?_) | (with_reducible refine below_then ?_ (by with_reducible assumption)) | (with_reducible refine Below.setCell ?_ (by go_size) _))))).mono ?_); rintro e w1 ⟨rfl, hb1⟩; (obtain ⟨hc1, hf1⟩ := bcell hb1; have hz1 := hb1.size; (try simp at hz1); have hB : Below w.heap.size w w1 := (by (repeat (first | (with_reducible exact Below.refl _ _) | (with_reducible assumption) | (with_reducible refine below_alloc ?_ _) | (with_reducible refine below_drewN ?_ _) | (with_reducible refine Below.drew ?_) | (with_reducible refine below_then ?_ (by with_reducible assumption)) | (with_reducible refine Below.setCell ?_ (by go_size) _)))); obtain ⟨hcB, hfB⟩ := bcell hB; (try have z0 : w.heap.size < w1.heap.size := by omega); (try have z1 : w.heap.size + 1 < w1.heap.size := by omega); (try have z2 : w.heap.size + 2 < w1.heap.size := by omega); (try have z3 : w.heap.size + 3 < w1.heap.size := by omega))) | ((with_reducible refine (M2.out _ (by (repeat (first | (with_reducible exact Below.refl _ _) | (with_reducible assumption) | (with_reducible refine below_alloc ?_ _) | (with_reducible refine below_drewN ?_ _) | (with_reducible refine Below.drew ?_) | (with_reducible refine below_then ?_ (by with_reducible assumption)) | (with_reducible refine Below.setCell ?_ (by go_size) _))))).mono ?_); rintro e w1 ⟨rfl, hb1⟩; (obtain ⟨hc1, hf1⟩ := bcell hb1; have hz1 := hb1.size; (try simp at hz1); have hB : Below w.heap.size w w1 := (by (repeat (first | (with_reducible exact Below.refl _ _) | (with_reducible assumption) | (with_reducible refine below_alloc ?_ _) | (with_reducible refine below_drewN ?_ _) | (with_reducible refine Below.drew ?_) | (with_reducible refine below_then ?_ (by with_reducible assumption)) | (with_reducible refine Below.setCell ?_ (by go_size) _)))); obtain ⟨hcB, hfB⟩ := bcell hB; (try have z0 : w.heap.size < w1.heap.size := by omega); (try have z1 : w.heap.size + 1 < w1.heap.size := by omega); (try have z2 : w.heap.size + 2 < w1.heap.size := by omega); (try have z3 : w.heap.size + 3 < w1.heap.size := by omega)))); go_returns; exact ⟨by (first | (rw [HR.out]; done) | (rw [HR.out]; rfl) | (rw [HR.out]; simp; done)), by (repeat (first | (with_reducible exact Below.refl _ _) | (with_reducible assumption) | (with_reducible refine below_alloc ?_ _) | (with_reducible refine below_drewN ?_ _) | (with_reducible refine Below.drew ?_) | (with_reducible refine below_then ?_ (by with_reducible assumption)) | (with_reducible refine Below.setCell ?_ (by go_size) _)))⟩)
end
end
end Go.Proofs.YtofoenlhbmammaaGreat
