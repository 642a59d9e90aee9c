/- CAL: Next. -/
import Derived.Test.YtfikgjcmnooglaaCal3
import Derived.Deep.DeepCutAuto
import Derived.Deep.CutBlock
namespace Go.Proofs.Ytfikgjcmnooglaa
open Go.RowKit Go.Shelf

/-- The first moment from which something is free, slot after slot. -/
def nextF : List Sl → Int → Int → Int
  | [], fr, _ => fr
  | s :: r, fr, long => if long ≤ s.f - fr then fr else nextF r s.t long
def nextN (c : List Sl) (fr long : Int) : Int := nextF (c.drop (aft c fr)) fr long
def nextE (c : List Sl) (fr long : Int) : Int := if calE c = 0 then if (0 ≤ fr ∧ fr < 1099511627776) ∧ 1 ≤ long then if long ≤ 1099511627776 - nextN c fr long then 0 else 6 else 2 else calE c
def nextV (c : List Sl) (fr long : Int) : Int := if nextE c fr long = 0 then nextN c fr long else 0
theorem nextF_in : ∀ {l : List Sl} {fr long : Int}, (∀ s ∈ l, s.may) → 0 ≤ fr → fr ≤ 1099511627776 → 0 ≤ nextF l fr long ∧ nextF l fr long ≤ 1099511627776
  | [], _, _, _, h1, h2 => ⟨h1, h2⟩
  | s :: r, fr, long, h, h1, h2 => by
    unfold nextF
    split
    · exact ⟨h1, h2⟩
    · have hs := h s (List.mem_cons_self ..)
      exact nextF_in (fun x hx => h x (List.mem_cons_of_mem _ hx)) (by have := hs.1.1; omega) hs.1.2
theorem nextF_drop {l : List Sl} {k : Nat} (h : k < l.length) (fr long : Int) : nextF (l.drop k) fr long = if long ≤ l[k].f - fr then fr else nextF (l.drop (k + 1)) l[k].t long := by
  rw [List.drop_eq_getElem_cons h]; rfl

set_option maxRecDepth 100000 in set_option maxHeartbeats 4000000 in
theorem cal_Next_in (b off cap : Nat) (c : List Sl) (fr long : Int) (w : World) (hc : CIn w (some ⟨b, off, none⟩) c) (hcap : c.length ≤ cap) (he : calE c = 0) (h0 : 0 ≤ fr) (h1 : fr < 1099511627776) (h2 : 1 ≤ long) (h3 : long ≤ 9223372036854775807) (hlt : aft c fr < c.length) :
    Calls Try.prog 23 #[.slice (some ⟨b, off, none⟩) c.length cap, .int .i64 fr, .int .i64 long] w (RB w (.tuple #[.int .i64 (nextV c fr long), .int .i64 (nextE c fr long)])) := by
  have HC := Lib.hid hc
  have hlen := hc.len
  obtain ⟨hch, hl⟩ := calE_ok he
  have H1 := Lib.hid (by have := cal_Check (some ⟨b, off, none⟩) cap c w hc; rw [he] at this; exact this)
  have H3 := Lib.hid (fun W (h : Below w.heap.size w W) => cal_after (some ⟨b, off, none⟩) cap c fr W (HC.out.keep h) hch)
  have HM := Lib.hid (fun (k : Nat) (hk : k < c.length) => chain_may hch hk)
  have hbn := nextF_in (l := c.drop (aft c fr)) (fr := fr) (long := long) (fun s hs => by
    obtain ⟨k, hk, rfl⟩ := List.mem_iff_getElem.1 (List.mem_of_mem_drop hs)
    exact HM.out k hk) h0 (by omega)
  have HN := Lib.hid (show nextN c fr long = nextF (c.drop (aft c fr)) fr long from rfl)
  have HE := Lib.hid (show nextE c fr long = if long ≤ 1099511627776 - nextF (c.drop (aft c fr)) fr long then 0 else 6 by rw [nextE, if_pos he, if_pos ⟨⟨h0, h1⟩, h2⟩]; rfl)
  have HV := Lib.hid (show nextV c fr long = if nextE c fr long = 0 then nextN c fr long else 0 from rfl)
  clear hc hch he
  generalize aft c fr = n at *
  obtain ⟨N, hN⟩ : ∃ N, N = nextF (c.drop n) fr long := ⟨_, rfl⟩
  rw [← hN] at hbn HN HE
  have HNN := Lib.hid hN.symm
  clear hN
  go_enter Try.func23, Try.ntmps23
  go_wp2_with fail
  refine H1.out.mono ?_
  rintro e w1 ⟨rfl, hb1⟩
  go_wp2_with fail
  refine (H3.out _ hb1).mono ?_
  rintro e w2 ⟨rfl, hb2⟩
  have hB2 := Lib.hid (below_then hb1 hb2)
  clear hb1 hb2
  go_upto_block 0 with fail
  go_cut [1] (fun s1 wx => s1 = .int .i64 N ∧ Below w.heap.size w wx)
  case first =>
    go_wp2_with fail
    go_loopw [1, 32] (fun v i wr => ∃ (k : Nat) (fr' : Int), n + k ≤ c.length ∧ i = .int .i64 k ∧ v = .int .i64 fr' ∧ 0 ≤ fr' ∧ fr' ≤ 1099511627776 ∧ nextF (c.drop (n + k)) fr' long = N ∧ Below w.heap.size w wr) (fun _ i _ => c.length - n - (intOf i).toNat)
    case atStart => exact ⟨0, fr, by omega, rfl, rfl, h0, by omega, HNN.out, hB2.out⟩
    case round =>
      obtain ⟨k, g, hk, rfl, rfl, g0, g1, hg, hbel⟩ := hrel
      have HB := Lib.hid hbel
      have HG := Lib.hid hg
      clear hbel hg
      by_cases hlt : n + k < c.length
      · obtain ⟨b', off', hbo, c0, c1, c2, hbl⟩ := (HC.out.keep HB.out).at hlt
        cases hbo
        have hm := HM.out _ hlt
        have hd := Lib.hid (nextF_drop hlt g long)
        obtain ⟨s, hsl⟩ : ∃ s, s = c[n + k] := ⟨_, rfl⟩
        rw [← hsl] at c0 c1 c2 hm hd
        have e0 : off + n * 3 + k * 3 = off + (n + k) * 3 := by omega
        obtain ⟨⟨m1, m2⟩, m3⟩ := hm.1
        clear hsl hm
        rw [← e0] at c0 c1 c2
        have hkk : k < c.length - n := by omega
        clear e0 hlt
        by_cases hfit : long ≤ s.f - g
        · have hdd := Lib.hid (hd.out.trans (if_pos hfit))
          clear hd
          go_wp2_with fail
          go_meet
          exact ⟨by rw [← HG.out, hdd.out], by have := HB.out; (repeat (first | (with_reducible exact Below.refl _ _) | (with_reducible assumption) | (with_reducible refine below_alloc ?_ _) | (with_reducible refine below_drewN ?_ _) | (with_reducible refine Below.drew ?_) | (with_reducible refine below_then ?_ (by with_reducible assumption)) | (with_reducible refine Below.setCell ?_ (by go_size) _)))⟩
        · have hdd := Lib.hid (hd.out.trans (if_neg hfit))
          clear hd
          go_wp2_with fail
          go_roundw
          case rel => exact ⟨k + 1, s.t, by omega, by go_num, rfl, by omega, m3, hdd.out.symm.trans HG.out, by have := HB.out; (repeat (first | (with_reducible exact Below.refl _ _) | (with_reducible assumption) | (with_reducible refine below_alloc ?_ _) | (with_reducible refine below_drewN ?_ _) | (with_reducible refine Below.drew ?_) | (with_reducible refine below_then ?_ (by with_reducible assumption)) | (with_reducible refine Below.setCell ?_ (by go_size) _)))⟩
          case measure => simp [intOf]; omega
      · have hend : n + k = c.length := by omega
        have hdd := Lib.hid (show nextF (c.drop (n + k)) g long = g by rw [hend, List.drop_length]; rfl)
        have hkk : ¬ k < c.length - n := by omega
        clear hend
        go_wp2_with fail
        go_meet
        exact ⟨by rw [← HG.out, hdd.out], HB.out⟩
  case rest =>
    obtain ⟨rfl, hbx⟩ := hcut
    by_cases hle : long ≤ 1099511627776 - N
    · have he0 := Lib.hid (HE.out.trans (if_pos hle))
      go_wp2_with fail
      go_returns
      exact ⟨by rw [HV.out, he0.out, HN.out]; rfl, hbx⟩
    · have he0 := Lib.hid (HE.out.trans (if_neg hle))
      go_wp2_with fail
      go_returns
      exact ⟨by rw [HV.out, he0.out]; rfl, hbx⟩

set_option maxRecDepth 100000 in set_option maxHeartbeats 4000000 in
theorem cal_Next_bad (base : Option Addr) (cap : Nat) (c : List Sl) (fr long : Int) (w : World) (hc : CIn w base c) (he : calE c ≠ 0) :
    Calls Try.prog 23 #[.slice base c.length cap, .int .i64 fr, .int .i64 long] w (RB w (.tuple #[.int .i64 (nextV c fr long), .int .i64 (nextE c fr long)])) := by
  have H1 := Lib.hid (cal_Check base cap c w hc)
  have HE := Lib.hid (show nextE c fr long = calE c by rw [nextE, if_neg he])
  have HV := Lib.hid (show nextV c fr long = 0 by rw [nextV, if_neg (by rw [HE.out]; exact he)])
  clear hc
  generalize calE c = z at *
  go_enter Try.func23, Try.ntmps23
  go_wp2_with fail
  refine H1.out.mono ?_
  rintro e w1 ⟨rfl, hb1⟩
  go_wp2_with fail
  go_returns
  exact ⟨by rw [HV.out, HE.out]; rfl, hb1⟩

set_option maxRecDepth 100000 in set_option maxHeartbeats 4000000 in
theorem cal_Next_arg (base : Option Addr) (cap : Nat) (c : List Sl) (fr long : Int) (w : World) (hc : CIn w base c) (he : calE c = 0) (ha : ¬ ((0 ≤ fr ∧ fr < 1099511627776) ∧ 1 ≤ long)) :
    Calls Try.prog 23 #[.slice base c.length cap, .int .i64 fr, .int .i64 long] w (RB w (.tuple #[.int .i64 (nextV c fr long), .int .i64 (nextE c fr long)])) := by
  have H1 := Lib.hid (by have := cal_Check base cap c w hc; rw [he] at this; exact this)
  have HE := Lib.hid (show nextE c fr long = 2 by rw [nextE, if_pos he, if_neg ha])
  have HV := Lib.hid (show nextV c fr long = 0 by rw [nextV, if_neg (by rw [HE.out]; decide)])
  clear hc he
  rcases Int.lt_or_le fr 0 with h0 | h0
  · clear ha
    go_enter Try.func23, Try.ntmps23
    go_wp2_with fail
    refine H1.out.mono ?_
    rintro e w1 ⟨rfl, hb1⟩
    go_wp2_with fail
    go_returns
    exact ⟨by rw [HV.out, HE.out]; rfl, hb1⟩
  · rcases Int.lt_or_le fr 1099511627776 with h1 | h1
    · have h2 : long < 1 := by omega
      clear ha
      go_enter Try.func23, Try.ntmps23
      go_wp2_with fail
      refine H1.out.mono ?_
      rintro e w1 ⟨rfl, hb1⟩
      go_wp2_with fail
      go_returns
      exact ⟨by rw [HV.out, HE.out]; rfl, hb1⟩
    · clear ha
      go_enter Try.func23, Try.ntmps23
      go_wp2_with fail
      refine H1.out.mono ?_
      rintro e w1 ⟨rfl, hb1⟩
      go_wp2_with fail
      go_returns
      exact ⟨by rw [HV.out, HE.out]; rfl, hb1⟩

set_option maxRecDepth 100000 in set_option maxHeartbeats 4000000 in
theorem cal_Next_end (base : Option Addr) (cap : Nat) (c : List Sl) (fr long : Int) (w : World) (hc : CIn w base c) (hcap : c.length ≤ cap) (hb0 : base = none → cap = 0) (he : calE c = 0) (h0 : 0 ≤ fr) (h1 : fr < 1099511627776) (h2 : 1 ≤ long) (h3 : long ≤ 9223372036854775807) (hlt : aft c fr = c.length) :
    Calls Try.prog 23 #[.slice base c.length cap, .int .i64 fr, .int .i64 long] w (RB w (.tuple #[.int .i64 (nextV c fr long), .int .i64 (nextE c fr long)])) := by
  obtain ⟨hch, hl⟩ := calE_ok he
  have H1 := Lib.hid (by have := cal_Check base cap c w hc; rw [he] at this; exact this)
  have H3 := Lib.hid (fun W (h : Below w.heap.size w W) => cal_after base cap c fr W (hc.keep h) hch)
  have HN := Lib.hid (show nextN c fr long = fr by rw [nextN, hlt, List.drop_length]; rfl)
  have HE := Lib.hid (show nextE c fr long = if long ≤ 1099511627776 - fr then 0 else 6 by rw [nextE, if_pos he, if_pos ⟨⟨h0, h1⟩, h2⟩, HN.out])
  have HV := Lib.hid (show nextV c fr long = if nextE c fr long = 0 then nextN c fr long else 0 from rfl)
  clear hc hch he
  rw [hlt] at H3
  clear hlt
  generalize c.length = n at *
  go_enter Try.func23, Try.ntmps23
  go_wp2_with fail
  refine H1.out.mono ?_
  rintro e w1 ⟨rfl, hb1⟩
  go_wp2_with fail
  refine (H3.out _ hb1).mono ?_
  rintro e w2 ⟨rfl, hb2⟩
  have hB2 := Lib.hid (below_then hb1 hb2)
  clear hb1 hb2
  cases base with
  | none =>
    obtain rfl := hb0 rfl
    obtain rfl : n = 0 := by omega
    by_cases hle : long ≤ 1099511627776 - fr
    · have he0 := Lib.hid (HE.out.trans (if_pos hle))
      go_wp2_with fail
      go_loopw [1, 32] (fun v i wr => v = .int .i64 fr ∧ i = .int .i64 0 ∧ Below w.heap.size w wr) (fun _ _ _ => 0)
      case atStart => exact ⟨rfl, rfl, hB2.out⟩
      case round =>
        obtain ⟨rfl, rfl, hrel⟩ := hrel
        go_wp2_with fail
        go_returns
        exact ⟨by rw [HV.out, he0.out, HN.out]; rfl, hrel⟩
    · have he0 := Lib.hid (HE.out.trans (if_neg hle))
      go_wp2_with fail
      go_loopw [1, 32] (fun v i wr => v = .int .i64 fr ∧ i = .int .i64 0 ∧ Below w.heap.size w wr) (fun _ _ _ => 0)
      case atStart => exact ⟨rfl, rfl, hB2.out⟩
      case round =>
        obtain ⟨rfl, rfl, hrel⟩ := hrel
        go_wp2_with fail
        go_returns
        exact ⟨by rw [HV.out, he0.out]; rfl, hrel⟩
  | some b =>
    by_cases hle : long ≤ 1099511627776 - fr
    · have he0 := Lib.hid (HE.out.trans (if_pos hle))
      go_wp2_with fail
      all_goals
        go_loopw [1, 32] (fun v i wr => v = .int .i64 fr ∧ i = .int .i64 0 ∧ Below w.heap.size w wr) (fun _ _ _ => 0)
        case atStart => exact ⟨rfl, rfl, hB2.out⟩
        case round =>
          obtain ⟨rfl, rfl, hrel⟩ := hrel
          go_wp2_with fail
          go_returns
          exact ⟨by rw [HV.out, he0.out, HN.out]; rfl, hrel⟩
    · have he0 := Lib.hid (HE.out.trans (if_neg hle))
      go_wp2_with fail
      all_goals
        go_loopw [1, 32] (fun v i wr => v = .int .i64 fr ∧ i = .int .i64 0 ∧ Below w.heap.size w wr) (fun _ _ _ => 0)
        case atStart => exact ⟨rfl, rfl, hB2.out⟩
        case round =>
          obtain ⟨rfl, rfl, hrel⟩ := hrel
          go_wp2_with fail
          go_returns
          exact ⟨by rw [HV.out, he0.out]; rfl, hrel⟩
end Go.Proofs.Ytfikgjcmnooglaa
