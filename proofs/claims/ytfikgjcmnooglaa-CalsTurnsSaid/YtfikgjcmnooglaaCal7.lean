/- CAL: the document's Next. -/
import Derived.Test.YtfikgjcmnooglaaCal5
namespace Go.Proofs.Ytfikgjcmnooglaa
open Go.RowKit Go.Shelf

/-- The moments at which something may begin, in turn; the least so far. -/
def cand (c : List Sl) (fr : Int) (k : Nat) : Int := if k = 0 then fr else (c[k - 1]?.map Sl.t).getD 0
def stepB (c : List Sl) (fr long best at' : Int) : Int :=
  if at' < fr then best else if 1099511627776 - at' < long then best else if 0 ≤ best then (if best ≤ at' then best else if clearB c at' (at' + long) then at' else best) else if clearB c at' (at' + long) then at' else best
def bestTo (c : List Sl) (fr long : Int) : Nat → Int
  | 0 => -1
  | k + 1 => stepB c fr long (bestTo c fr long k) (cand c fr k)
def bestOf (c : List Sl) (fr long : Int) : Int := bestTo c fr long (c.length + 1)
def nrE (c : List Sl) (fr long : Int) : Int := if calOk c then if (0 ≤ fr ∧ fr < 1099511627776) ∧ 1 ≤ long then if bestOf c fr long < 0 then 6 else 0 else 2 else 8
def nrV (c : List Sl) (fr long : Int) : Int := if nrE c fr long = 0 then bestOf c fr long else 0

set_option maxRecDepth 100000 in set_option maxHeartbeats 4000000 in
theorem ref08_Next (base : Option Addr) (cap : Nat) (c : List Sl) (fr long : Int) (w : World) (hc : CIn w base c) (h3 : long ≤ 9223372036854775807) :
    Calls Try.prog 24 #[.slice base c.length cap, .int .i64 fr, .int .i64 long] w (RB w (.tuple #[.int .i64 (nrV c fr long), .int .i64 (nrE c fr long)])) := by
  have HC := Lib.hid hc
  have hlen := hc.len
  have H1 := Lib.hid (fun W (h : Below w.heap.size w W) => ref08_May base cap c W (hc.keep h))
  have H2 := Lib.hid (fun f t W (h : Below w.heap.size w W) => ref08_Clear base cap c f t W (hc.keep h))
  have HV := Lib.hid (show nrV c fr long = if nrE c fr long = 0 then bestOf c fr long else 0 from rfl)
  clear hc
  cases hy : calOk c
  · have HE := Lib.hid (show nrE c fr long = 8 by rw [nrE, hy]; rfl)
    rw [hy] at H1
    clear hy
    go_enter Try.func24, Try.ntmps24
    go_wp2_with fail
    refine (H1.out _ (by (repeat (first | (with_reducible exact Below.refl _ _) | (with_reducible assumption) | (with_reducible refine below_alloc ?_ _) | (with_reducible refine below_drewN ?_ _) | (with_reducible refine Below.drew ?_) | (with_reducible refine below_then ?_ (by with_reducible assumption)) | (with_reducible refine Below.setCell ?_ (by go_size) _))))).mono ?_
    rintro e w1 ⟨rfl, hb1⟩
    go_wp2_with fail
    go_returns
    exact ⟨by rw [HV.out, HE.out]; rfl, hb1⟩
  · have hch := (calE_ok (c := c) (by unfold calE; rw [hy]; rfl)).1
    have HT := Lib.hid (fun (k : Nat) (hk : k < c.length) => chain_may hch hk)
    have HE := Lib.hid (show nrE c fr long = if (0 ≤ fr ∧ fr < 1099511627776) ∧ 1 ≤ long then if bestOf c fr long < 0 then 6 else 0 else 2 by rw [nrE, if_pos hy])
    rw [hy] at H1
    clear hy hch
    by_cases h0 : fr < 0
    · have HE2 := Lib.hid (show nrE c fr long = 2 by rw [HE.out, if_neg (by omega)])
      go_enter Try.func24, Try.ntmps24
      go_wp2_with fail
      refine (H1.out _ (by (repeat (first | (with_reducible exact Below.refl _ _) | (with_reducible assumption) | (with_reducible refine below_alloc ?_ _) | (with_reducible refine below_drewN ?_ _) | (with_reducible refine Below.drew ?_) | (with_reducible refine below_then ?_ (by with_reducible assumption)) | (with_reducible refine Below.setCell ?_ (by go_size) _))))).mono ?_
      rintro e w1 ⟨rfl, hb1⟩
      go_wp2_with fail
      go_returns
      exact ⟨by rw [HV.out, HE2.out]; rfl, hb1⟩
    by_cases h1 : 1099511627776 ≤ fr
    · have HE2 := Lib.hid (show nrE c fr long = 2 by rw [HE.out, if_neg (by omega)])
      go_enter Try.func24, Try.ntmps24
      go_wp2_with fail
      refine (H1.out _ (by (repeat (first | (with_reducible exact Below.refl _ _) | (with_reducible assumption) | (with_reducible refine below_alloc ?_ _) | (with_reducible refine below_drewN ?_ _) | (with_reducible refine Below.drew ?_) | (with_reducible refine below_then ?_ (by with_reducible assumption)) | (with_reducible refine Below.setCell ?_ (by go_size) _))))).mono ?_
      rintro e w1 ⟨rfl, hb1⟩
      go_wp2_with fail
      go_returns
      exact ⟨by rw [HV.out, HE2.out]; rfl, hb1⟩
    by_cases h2 : long < 1
    · have HE2 := Lib.hid (show nrE c fr long = 2 by rw [HE.out, if_neg (by omega)])
      go_enter Try.func24, Try.ntmps24
      go_wp2_with fail
      refine (H1.out _ (by (repeat (first | (with_reducible exact Below.refl _ _) | (with_reducible assumption) | (with_reducible refine below_alloc ?_ _) | (with_reducible refine below_drewN ?_ _) | (with_reducible refine Below.drew ?_) | (with_reducible refine below_then ?_ (by with_reducible assumption)) | (with_reducible refine Below.setCell ?_ (by go_size) _))))).mono ?_
      rintro e w1 ⟨rfl, hb1⟩
      go_wp2_with fail
      go_returns
      exact ⟨by rw [HV.out, HE2.out]; rfl, hb1⟩
    have HE2 := Lib.hid (HE.out.trans (if_pos (by omega)))
    clear HE
    have hsuc := Lib.hid (fun k => show bestTo c fr long (k + 1) = stepB c fr long (bestTo c fr long k) (cand c fr k) from rfl)
    have hfin := Lib.hid (show bestTo c fr long (c.length + 1) = bestOf c fr long from rfl)
    go_enter Try.func24, Try.ntmps24
    go_wp2_with fail
    refine (H1.out _ (by (repeat (first | (with_reducible exact Below.refl _ _) | (with_reducible assumption) | (with_reducible refine below_alloc ?_ _) | (with_reducible refine below_drewN ?_ _) | (with_reducible refine Below.drew ?_) | (with_reducible refine below_then ?_ (by with_reducible assumption)) | (with_reducible refine Below.setCell ?_ (by go_size) _))))).mono ?_
    rintro e w1 ⟨rfl, hb1⟩
    have HW := Lib.hid hb1
    clear hb1
    go_wp2_with fail
    go_loopw [8, 9] (fun v i wr => ∃ k : Nat, k ≤ c.length + 1 ∧ ∃ z : Int, i = .int .i64 z ∧ z = (k : Int) - 1 ∧ v = .int .i64 (bestTo c fr long k) ∧ Below w.heap.size w wr) (fun _ i _ => (c.length - (intOf i)).toNat)
    case atStart => exact ⟨0, Nat.zero_le _, _, rfl, rfl, rfl, HW.out⟩
    case round =>
      obtain ⟨k, hk, z, rfl, hz, rfl, hbel⟩ := hrel
      have HB := Lib.hid hbel
      clear hbel
      by_cases hlt : k < c.length + 1
      · have hst := Lib.hid (hsuc.out k)
        rcases k with _ | j
        · obtain rfl : z = -1 := by omega
          have hs1 := Lib.hid (hst.out.trans (show stepB c fr long (-1) fr = _ by unfold stepB; rw [if_neg (Int.lt_irrefl fr)]))
          rw [show bestTo c fr long 0 = -1 from rfl]
          clear hst hz hsuc hfin HE2 HT hk hlt
          by_cases hA : 1099511627776 - fr < long
          · have hst2 := Lib.hid (hs1.out.trans (if_pos hA))
            clear hs1
            go_wp2_with fail
            go_roundw
            case rel => exact ⟨0 + 1, by omega, 0, rfl, by omega, by rw [hst2.out], HB.out⟩
            case measure => (simp [intOf] <;> omega)
          · have hs2 := Lib.hid (hs1.out.trans ((if_neg hA).trans (if_neg (by decide))))
            clear hs1
            cases hcl : clearB c fr (fr + long)
            · have HM2 := Lib.hid (Calls.rb_eq (H2.out fr (fr + long) wr HB.out) (congrArg Value.bool hcl))
              have hst2 := Lib.hid (hs2.out.trans (by rw [hcl]; rfl : _ = (-1 : Int)))
              clear hs2 hcl H2
              go_wp2_with ((with_reducible refine (HM2.out).mono ?_); rintro e w1 ⟨rfl, hb1⟩; (obtain ⟨hc1, hf1⟩ := bcell hb1; have hz1 := hb1.size; (try simp at hz1)))
              go_roundw
              case rel => exact ⟨0 + 1, by omega, 0, rfl, by omega, by rw [hst2.out], below_then HB.out hb1⟩
              case measure => (simp [intOf] <;> omega)
            · have HM2 := Lib.hid (Calls.rb_eq (H2.out fr (fr + long) wr HB.out) (congrArg Value.bool hcl))
              have hst2 := Lib.hid (hs2.out.trans (by rw [hcl]; rfl : _ = fr))
              clear hs2 hcl H2
              go_wp2_with ((with_reducible refine (HM2.out).mono ?_); rintro e w1 ⟨rfl, hb1⟩; (obtain ⟨hc1, hf1⟩ := bcell hb1; have hz1 := hb1.size; (try simp at hz1)))
              go_roundw
              case rel => exact ⟨0 + 1, by omega, 0, rfl, by omega, by rw [hst2.out], below_then HB.out hb1⟩
              case measure => (simp [intOf] <;> omega)
        · obtain rfl : z = (j : Int) := by omega
          have hj : j < c.length := by omega
          have hca : cand c fr (j + 1) = c[j].t := by unfold cand; rw [if_neg (by omega)]; simp [hj]
          rw [hca] at hst
          obtain ⟨b, off, rfl, c0, c1, c2, hbl⟩ := (HC.out.keep HB.out).at hj
          have hm := HT.out j hj
          obtain ⟨⟨m0, m1⟩, m2⟩ := hm.1
          obtain ⟨s, hsl⟩ : ∃ s, s = c[j] := ⟨_, rfl⟩
          rw [← hsl] at c0 c1 c2 hst m0 m1 m2
          obtain ⟨f, x, o⟩ := s
          simp only [] at c0 c1 c2 m0 m1 m2
          have hs0 := Lib.hid (show bestTo c fr long (j + 1 + 1) = if x < fr then bestTo c fr long (j + 1) else if 1099511627776 - x < long then bestTo c fr long (j + 1) else if 0 ≤ bestTo c fr long (j + 1) then (if bestTo c fr long (j + 1) ≤ x then bestTo c fr long (j + 1) else if clearB c x (x + long) then x else bestTo c fr long (j + 1)) else if clearB c x (x + long) then x else bestTo c fr long (j + 1) from hst.out)
          clear hst hz hsuc hfin HE2 HT hca hsl hm hlt hk
          generalize bestTo c fr long (j + 1) = B at *
          by_cases hA : x < fr
          · have hst2 := Lib.hid (hs0.out.trans (if_pos hA))
            clear hs0
            go_wp2_with fail
            go_roundw
            case rel => exact ⟨j + 1 + 1, by omega, (j + 1 : Nat), by go_num, by omega, by rw [hst2.out], HB.out⟩
            case measure => (simp [intOf] <;> omega)
          have hs0 := Lib.hid (hs0.out.trans (if_neg hA))
          by_cases hL : 1099511627776 - x < long
          · have hst2 := Lib.hid (hs0.out.trans (if_pos hL))
            clear hs0
            go_wp2_with fail
            go_roundw
            case rel => exact ⟨j + 1 + 1, by omega, (j + 1 : Nat), by go_num, by omega, by rw [hst2.out], HB.out⟩
            case measure => (simp [intOf] <;> omega)
          have hs0 := Lib.hid (hs0.out.trans (if_neg hL))
          by_cases hB : 0 ≤ B
          · have hs0 := Lib.hid (hs0.out.trans (if_pos hB))
            by_cases hX : B ≤ x
            · have hst2 := Lib.hid (hs0.out.trans (if_pos hX))
              clear hs0
              go_wp2_with fail
              go_roundw
              case rel => exact ⟨j + 1 + 1, by omega, (j + 1 : Nat), by go_num, by omega, by rw [hst2.out], HB.out⟩
              case measure => (simp [intOf] <;> omega)
            have hs0 := Lib.hid (hs0.out.trans (if_neg hX))
            cases hcl : clearB c x (x + long)
            · have HM2 := Lib.hid (Calls.rb_eq (H2.out x (x + long) wr HB.out) (congrArg Value.bool hcl))
              have hst2 := Lib.hid (hs0.out.trans (by rw [hcl]; rfl : _ = B))
              clear hs0 hcl H2
              go_wp2_with ((with_reducible refine (HM2.out).mono ?_); rintro e w1 ⟨rfl, hb1⟩; (obtain ⟨hc1, hf1⟩ := bcell hb1; have hz1 := hb1.size; (try simp at hz1)))
              go_roundw
              case rel => exact ⟨j + 1 + 1, by omega, (j + 1 : Nat), by go_num, by omega, by rw [hst2.out], below_then HB.out hb1⟩
              case measure => (simp [intOf] <;> omega)
            · have HM2 := Lib.hid (Calls.rb_eq (H2.out x (x + long) wr HB.out) (congrArg Value.bool hcl))
              have hst2 := Lib.hid (hs0.out.trans (by rw [hcl]; rfl : _ = x))
              clear hs0 hcl H2
              go_wp2_with ((with_reducible refine (HM2.out).mono ?_); rintro e w1 ⟨rfl, hb1⟩; (obtain ⟨hc1, hf1⟩ := bcell hb1; have hz1 := hb1.size; (try simp at hz1)))
              go_roundw
              case rel => exact ⟨j + 1 + 1, by omega, (j + 1 : Nat), by go_num, by omega, by rw [hst2.out], below_then HB.out hb1⟩
              case measure => (simp [intOf] <;> omega)
          have hs0 := Lib.hid (hs0.out.trans (if_neg hB))
          cases hcl : clearB c x (x + long)
          · have HM2 := Lib.hid (Calls.rb_eq (H2.out x (x + long) wr HB.out) (congrArg Value.bool hcl))
            have hst2 := Lib.hid (hs0.out.trans (by rw [hcl]; rfl : _ = B))
            clear hs0 hcl H2
            go_wp2_with ((with_reducible refine (HM2.out).mono ?_); rintro e w1 ⟨rfl, hb1⟩; (obtain ⟨hc1, hf1⟩ := bcell hb1; have hz1 := hb1.size; (try simp at hz1)))
            go_roundw
            case rel => exact ⟨j + 1 + 1, by omega, (j + 1 : Nat), by go_num, by omega, by rw [hst2.out], below_then HB.out hb1⟩
            case measure => (simp [intOf] <;> omega)
          · have HM2 := Lib.hid (Calls.rb_eq (H2.out x (x + long) wr HB.out) (congrArg Value.bool hcl))
            have hst2 := Lib.hid (hs0.out.trans (by rw [hcl]; rfl : _ = x))
            clear hs0 hcl H2
            go_wp2_with ((with_reducible refine (HM2.out).mono ?_); rintro e w1 ⟨rfl, hb1⟩; (obtain ⟨hc1, hf1⟩ := bcell hb1; have hz1 := hb1.size; (try simp at hz1)))
            go_roundw
            case rel => exact ⟨j + 1 + 1, by omega, (j + 1 : Nat), by go_num, by omega, by rw [hst2.out], below_then HB.out hb1⟩
            case measure => (simp [intOf] <;> omega)
      · obtain rfl : k = c.length + 1 := by omega
        obtain rfl : z = (c.length : Int) := by omega
        rw [hfin.out]
        clear hz hlt hk hfin hsuc HT H2
        generalize bestOf c fr long = B at *
        by_cases hB : B < 0
        · have HE3 := Lib.hid (HE2.out.trans (if_pos hB))
          go_wp2_with fail
          go_returns
          exact ⟨by rw [HV.out, HE3.out]; rfl, HB.out⟩
        · have HE3 := Lib.hid (HE2.out.trans (if_neg hB))
          go_wp2_with fail
          go_returns
          exact ⟨by rw [HV.out, HE3.out]; rfl, HB.out⟩
end Go.Proofs.Ytfikgjcmnooglaa
