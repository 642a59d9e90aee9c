/- CAL: the document's At. -/
import Derived.Test.YtfikgjcmnooglaaCal5
namespace Go.Proofs.Ytfikgjcmnooglaa
open Go.RowKit Go.Shelf

/-- The first slot that holds a moment, as the document looks for it. -/
def hitR (c : List Sl) (a : Int) : Option Sl := c.find? (fun s => inB s.f s.t a)
theorem hitR_at {c : List Sl} {a : Int} {k : Nat} (hk : k < c.length) (h : inB c[k].f c[k].t a = true) (ha : ∀ j (hj : j < c.length), j < k → inB c[j].f c[j].t a = false) : hitR c a = some c[k] := by
  unfold hitR
  rw [List.find?_eq_some_iff_getElem]
  exact ⟨h, k, hk, rfl, fun j hj => by rw [ha j (by omega) hj]; rfl⟩
theorem hitR_no {c : List Sl} {a : Int} (ha : ∀ j (hj : j < c.length), j < c.length → inB c[j].f c[j].t a = false) : hitR c a = none := by
  unfold hitR
  rw [List.find?_eq_none]
  intro s hs
  obtain ⟨j, hj, rfl⟩ := List.mem_iff_getElem.1 hs
  rw [ha j hj hj]; decide
theorem hitR_eq {c : List Sl} (hch : chain 0 c = true) (a : Int) : hitR c a = hitAt c a := by
  have hal := aft_le c a
  have hI := fun (k : Nat) (hk : k < c.length) => aft_iff hch a hk
  have hb : ∀ j (hj : j < c.length), j < aft c a → inB c[j].f c[j].t a = false := fun j hj hlt => by
    have := (hI j hj).2 hlt
    unfold inB
    rw [decide_eq_false (show ¬ a < c[j].t by omega), Bool.and_false]
  by_cases hlt : aft c a < c.length
  · have h1 : a < c[aft c a].t := by
      rcases Int.lt_or_le a c[aft c a].t with h | h
      · exact h
      · exact absurd ((hI _ hlt).1 h) (by omega)
    unfold hitAt
    rw [List.getElem?_eq_getElem hlt]
    simp only []
    by_cases hf : c[aft c a].f ≤ a
    · rw [if_pos hf]
      exact hitR_at hlt (by unfold inB; rw [decide_eq_true hf, decide_eq_true h1]; rfl) hb
    · rw [if_neg hf]
      refine hitR_no (fun j hj _ => ?_)
      rcases Nat.lt_trichotomy j (aft c a) with h | h | h
      · exact hb j hj h
      · subst h
        unfold inB
        rw [decide_eq_false hf]; rfl
      · have := chain_next hch hj hlt h
        unfold inB
        rw [decide_eq_false (show ¬ c[j].f ≤ a by omega)]; rfl
  · unfold hitAt
    rw [List.getElem?_eq_none (by omega)]
    exact hitR_no (fun j hj _ => hb j hj (by omega))

set_option maxRecDepth 100000 in set_option maxHeartbeats 4000000 in
theorem ref08_At (base : Option Addr) (cap : Nat) (c : List Sl) (a : Int) (w : World) (hc : CIn w base c) :
    Calls Try.prog 22 #[.slice base c.length cap, .int .i64 a] w (RB w (.tuple #[.int .i64 (atO c a), .int .i64 (atE c a)])) := by
  have HC := Lib.hid hc
  have hlen := hc.len
  have H1 := Lib.hid (fun W (h : Below w.heap.size w W) => ref08_May base cap c W (hc.keep h))
  clear hc
  cases hy : calOk c
  · have e1 : calE c = 8 := by unfold calE; rw [hy]; rfl
    have HE := Lib.hid (show atE c a = 8 by rw [atE, if_neg (by omega), e1])
    have HQ := Lib.hid (show atO c a = 0 by rw [atO, if_neg (by rw [HE.out]; omega)])
    rw [hy] at H1
    clear hy e1
    go_enter Try.func22, Try.ntmps22
    go_wp2_with fail
    refine (H1.out _ (by (repeat (first | (with_reducible exact Below.refl _ _) | (with_reducible assumption) | (with_reducible refine below_alloc ?_ _) | (with_reducible refine below_drewN ?_ _) | (with_reducible refine Below.drew ?_) | (with_reducible refine below_then ?_ (by with_reducible assumption)) | (with_reducible refine Below.setCell ?_ (by go_size) _))))).mono ?_
    rintro e w1 ⟨rfl, hb1⟩
    go_wp2_with fail
    go_returns
    exact ⟨by rw [HQ.out, HE.out]; rfl, hb1⟩
  · have e1 : calE c = 0 := by unfold calE; rw [hy]; rfl
    have hch := (calE_ok e1).1
    have HR := Lib.hid (hitR_eq hch a)
    rw [hy] at H1
    by_cases h0 : a < 0
    · have HE := Lib.hid (show atE c a = 2 by rw [atE, if_pos e1, if_neg (by omega)])
      have HQ := Lib.hid (show atO c a = 0 by rw [atO, if_neg (by rw [HE.out]; omega)])
      clear hy e1 hch
      go_enter Try.func22, Try.ntmps22
      go_wp2_with fail
      refine (H1.out _ (by (repeat (first | (with_reducible exact Below.refl _ _) | (with_reducible assumption) | (with_reducible refine below_alloc ?_ _) | (with_reducible refine below_drewN ?_ _) | (with_reducible refine Below.drew ?_) | (with_reducible refine below_then ?_ (by with_reducible assumption)) | (with_reducible refine Below.setCell ?_ (by go_size) _))))).mono ?_
      rintro e w1 ⟨rfl, hb1⟩
      go_wp2_with fail
      go_returns
      exact ⟨by rw [HQ.out, HE.out]; rfl, hb1⟩
    by_cases h1 : 1099511627776 ≤ a
    · have HE := Lib.hid (show atE c a = 2 by rw [atE, if_pos e1, if_neg (by omega)])
      have HQ := Lib.hid (show atO c a = 0 by rw [atO, if_neg (by rw [HE.out]; omega)])
      clear hy e1 hch
      go_enter Try.func22, Try.ntmps22
      go_wp2_with fail
      refine (H1.out _ (by (repeat (first | (with_reducible exact Below.refl _ _) | (with_reducible assumption) | (with_reducible refine below_alloc ?_ _) | (with_reducible refine below_drewN ?_ _) | (with_reducible refine Below.drew ?_) | (with_reducible refine below_then ?_ (by with_reducible assumption)) | (with_reducible refine Below.setCell ?_ (by go_size) _))))).mono ?_
      rintro e w1 ⟨rfl, hb1⟩
      go_wp2_with fail
      go_returns
      exact ⟨by rw [HQ.out, HE.out]; rfl, hb1⟩
    have HE := Lib.hid (show atE c a = if (hitR c a).isSome then 0 else 6 by rw [atE, if_pos e1, if_pos (by omega), HR.out])
    have HQ := Lib.hid (show atO c a = if atE c a = 0 then ((hitR c a).map Sl.o).getD 0 else 0 by rw [HR.out]; rfl)
    clear hy e1 hch HR
    go_enter Try.func22, Try.ntmps22
    go_wp2_with fail
    refine (H1.out _ (by (repeat (first | (with_reducible exact Below.refl _ _) | (with_reducible assumption) | (with_reducible refine below_alloc ?_ _) | (with_reducible refine below_drewN ?_ _) | (with_reducible refine Below.drew ?_) | (with_reducible refine below_then ?_ (by with_reducible assumption)) | (with_reducible refine Below.setCell ?_ (by go_size) _))))).mono ?_
    rintro e w1 ⟨rfl, hb1⟩
    have HW := Lib.hid hb1
    clear hb1
    go_wp2_with fail
    go_loopw [6] (fun i wr => ∃ k : Nat, k ≤ c.length ∧ i = .int .i64 k ∧ (∀ j (hj : j < c.length), j < k → inB c[j].f c[j].t a = false) ∧ Below w.heap.size w wr) (fun i _ => c.length - (intOf i).toNat)
    case atStart => exact ⟨0, Nat.zero_le _, rfl, fun j _ h => absurd h (by omega), HW.out⟩
    case round =>
      obtain ⟨k, hk, rfl, hall, hbel⟩ := hrel
      have HB := Lib.hid hbel
      have HA := Lib.hid hall
      clear hbel hall
      by_cases hlt : k < c.length
      · obtain ⟨b, off, rfl, c0, c1, c2, hbl⟩ := (HC.out.keep HB.out).at hlt
        have HM := Lib.hid (fun W => ref07_In c[k].f c[k].t a W)
        have hhit := Lib.hid (fun h => hitR_at hlt (a := a) h HA.out)
        have hnx := Lib.hid (fun (h : inB c[k].f c[k].t a = false) (j : Nat) (hj : j < c.length) (hjk : j < k + 1) => show inB c[j].f c[j].t a = false by
          rcases Nat.lt_or_ge j k with h5 | h5
          · exact HA.out j hj h5
          · have : j = k := by omega
            subst this; exact h)
        obtain ⟨s, hsl⟩ : ∃ s, s = c[k] := ⟨_, rfl⟩
        rw [← hsl] at c0 c1 c2 HM hhit hnx
        clear hsl
        cases hm : inB s.f s.t a
        · have HM2 := Lib.hid (fun W => Calls.rb_eq (HM.out W) (congrArg Value.bool hm))
          have hyes := Lib.hid (hnx.out hm)
          clear HM hnx hhit
          go_wp2_with ((with_reducible refine (HM2.out _).mono ?_); rintro e w1 ⟨rfl, hb1⟩; (obtain ⟨hc1, hf1⟩ := bcell hb1; have hz1 := hb1.size; (try simp at hz1)))
          go_roundw
          case rel => exact ⟨k + 1, by omega, by go_num, hyes.out, below_then HB.out hb1⟩
          case measure => simp [intOf]; omega
        · have HM2 := Lib.hid (fun W => Calls.rb_eq (HM.out W) (congrArg Value.bool hm))
          have hyes := Lib.hid (hhit.out hm)
          have HE2 := Lib.hid (show atE c a = 0 by rw [HE.out, hyes.out]; rfl)
          have HQ2 := Lib.hid (show atO c a = s.o by rw [HQ.out, if_pos HE2.out, hyes.out]; rfl)
          clear HM hnx hhit
          go_wp2_with ((with_reducible refine (HM2.out _).mono ?_); rintro e w1 ⟨rfl, hb1⟩; (obtain ⟨hc1, hf1⟩ := bcell hb1; have hz1 := hb1.size; (try simp at hz1)))
          go_returns
          exact ⟨by rw [HQ2.out, HE2.out]; rfl, below_then HB.out hb1⟩
      · obtain rfl : k = c.length := by omega
        have hno := Lib.hid (hitR_no HA.out)
        have HE2 := Lib.hid (show atE c a = 6 by rw [HE.out, hno.out]; rfl)
        have HQ2 := Lib.hid (show atO c a = 0 by rw [HQ.out, if_neg (by rw [HE2.out]; omega)])
        go_wp2_with fail
        go_returns
        exact ⟨by rw [HQ2.out, HE2.out]; rfl, HB.out⟩
end Go.Proofs.Ytfikgjcmnooglaa
