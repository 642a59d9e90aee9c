/- WIRE: lines along an axis; a run is taken sorted. -/
import Derived.Shelf.Slices.In.SortNone
import Derived.Deep.DeepCutAuto
import Derived.Deep.RegionHeld3
import Derived.Test.YtofoenlhbmammaaGreatQ7FreeTells
import Derived.Test.YtofoenlhbmammaaGreatQ0WireRun
namespace Go.Proofs.YtofoenlhbmammaaGreat

section
section
open Go.RowKit Go.Shelf

/-- Is a midplane among the first ones on? -/
def V3.amongTo (d : V3) (k : Nat) (m : Int) (i : Nat) (o : Int) : Bool := (List.range i).any (fun (j : Nat) => decide (d.step m k (j : Int) = o))
theorem V3.amongTo_zero (d : V3) (k : Nat) (m o : Int) : d.amongTo k m 0 o = false := rfl
theorem V3.amongTo_succ (d : V3) (k : Nat) (m : Int) (i : Nat) (o : Int) : d.amongTo k m (i + 1) o = (d.amongTo k m i o || decide (d.step m k (i : Int) = o)) := by simp [V3.amongTo, List.range_succ]
theorem V3.amongTo_hit {d : V3} {k : Nat} {m : Int} {i : Nat} {many : Nat} {o : Int} (hi : i < many) (h : d.step m k (i : Int) = o) : d.amongTo k m many o = true := by
  rw [V3.amongTo, List.any_eq_true]
  exact ⟨i, List.mem_range.2 hi, decide_eq_true h⟩
/-- The cables of those that are among, of the midplanes below a number. -/
def V3.takenTo (d : V3) (k : Nat) (m : Int) (many j : Nat) : List Int := ((List.range j).filter (fun (o : Nat) => d.amongTo k m many (o : Int))).map (fun (o : Nat) => (k : Int) * d.n + (o : Int))
theorem V3.takenTo_succ (d : V3) (k : Nat) (m : Int) (many j : Nat) : d.takenTo k m many (j + 1) = if d.amongTo k m many (j : Int) = true then d.takenTo k m many j ++ [(k : Int) * d.n + (j : Int)] else d.takenTo k m many j := by
  simp only [V3.takenTo, List.range_succ, List.filter_append, List.filter_cons, List.filter_nil, List.map_append]
  split <;> simp
theorem V3.takenTo_len (d : V3) (k : Nat) (m : Int) (many j : Nat) : (d.takenTo k m many j).length ≤ j := by
  have := List.length_filter_le (fun (o : Nat) => d.amongTo k m many (o : Int)) (List.range j)
  simpa [V3.takenTo] using this
def V3.taken (d : V3) (k : Nat) (m : Int) (many : Nat) : List Int := if d.at k ≤ 1 then [] else d.takenTo k m many d.n.toNat
theorem V3.takenTo_rise (d : V3) (k : Nat) (m : Int) (many j : Nat) : (d.takenTo k m many j).Pairwise (· < ·) := by
  refine List.Pairwise.map _ (R := fun a b : Nat => a < b) (fun a b h => by omega) ?_
  exact List.Pairwise.filter _ List.pairwise_lt_range
theorem V3.mem_takenTo {d : V3} {k : Nat} {m : Int} {many j : Nat} {x : Int} : x ∈ d.takenTo k m many j ↔ ∃ o : Nat, o < j ∧ d.amongTo k m many (o : Int) = true ∧ (k : Int) * d.n + (o : Int) = x := by
  simp only [V3.takenTo, List.mem_map, List.mem_filter, List.mem_range]
  constructor
  · rintro ⟨o, ⟨h1, h2⟩, h3⟩; exact ⟨o, h1, h2, h3⟩
  · rintro ⟨o, h1, h2, h3⟩; exact ⟨o, ⟨h1, h2⟩, h3⟩
/-- Steps on are different below the ring's length. -/
theorem V3.step_inj {d : V3} {m : Int} {k : Nat} (hd : d.may) (h0 : 0 ≤ m) (h1 : m < d.n) (hk : k < 3) {i j : Nat} (hi : (i : Int) < d.at k) (hj : (j : Int) < d.at k) (h : d.step m k i = d.step m k j) : i = j := by
  have e := congrArg d.pos h
  unfold V3.step at e
  rw [V3.pos_num hd (V3.stepped_inside hd h0 h1 hk i), V3.pos_num hd (V3.stepped_inside hd h0 h1 hk j)] at e
  have key : ∀ p n : Int, 0 < n → (i : Int) < n → (j : Int) < n → (p + i) % n = (p + j) % n → i = j := by
    intro p n hn hi hj he
    have h2 : ((i : Int) - j) % n = 0 := by
      have := Int.emod_emod_of_dvd (p + i - (p + j)) (Int.dvd_refl n)
      have h3 : (p + i - (p + j)) % n = 0 := Int.emod_eq_emod_iff_emod_sub_eq_zero.1 he
      rwa [show p + (i : Int) - (p + j) = i - j by omega] at h3
    obtain ⟨c, hc⟩ := Int.dvd_of_emod_eq_zero h2
    have : c = 0 := by
      rcases Int.lt_trichotomy c 0 with hc0 | hc0 | hc0
      · have := Int.mul_le_mul_of_nonneg_left (show c ≤ -1 by omega) (show 0 ≤ n by omega); omega
      · exact hc0
      · have := Int.mul_le_mul_of_nonneg_left (show 1 ≤ c by omega) (show 0 ≤ n by omega); omega
    subst this
    omega
  unfold V3.stepped V3.put at e
  unfold V3.may at hd
  match k, hk with
  | 0, _ => exact key _ d.x (by omega) hi hj (congrArg V3.x e)
  | 1, _ => exact key _ d.y (by omega) hi hj (congrArg V3.y e)
  | 2, _ => exact key _ d.z (by omega) hi hj (congrArg V3.z e)
theorem V3.links_nodup {d : V3} {m : Int} {k many : Nat} (hd : d.may) (h0 : 0 ≤ m) (h1 : m < d.n) (hk : k < 3) (hm : (many : Int) ≤ d.at k) : (d.links k m many).Nodup := by
  unfold V3.links
  refine List.pairwise_map.2 (List.Pairwise.imp_of_mem ?_ (List.nodup_range (n := many)))
  intro a b ha hb hne h
  rw [List.mem_range] at ha hb
  exact hne (V3.step_inj hd h0 h1 hk (by omega) (by omega) (by omega))
theorem V3.step_in {d : V3} {m : Int} {k : Nat} (hd : d.may) (h0 : 0 ≤ m) (h1 : m < d.n) (hk : k < 3) (i : Int) : 0 ≤ d.step m k i ∧ d.step m k i < d.n := V3.num_lt hd (V3.stepped_inside hd h0 h1 hk i)
theorem V3.mem_links {d : V3} {k : Nat} {m : Int} {many : Nat} {x : Int} : x ∈ d.links k m many ↔ ∃ i : Nat, i < many ∧ (k : Int) * d.n + d.step m k i = x := by
  simp only [V3.links, List.mem_map, List.mem_range]
theorem V3.links_taken {d : V3} {m : Int} {k many : Nat} (hd : d.may) (h0 : 0 ≤ m) (h1 : m < d.n) (hk : k < 3) (hm : (many : Int) ≤ d.at k) : sorted (d.links k m many) = d.takenTo k m many d.n.toNat := by
  refine rise_ext (sorted_rise (V3.links_nodup hd h0 h1 hk hm)) (V3.takenTo_rise d k m many _) (fun x => ?_)
  refine ((List.mergeSort_perm _ _).mem_iff).trans ?_
  rw [V3.mem_links, V3.mem_takenTo]
  constructor
  · rintro ⟨i, hi, rfl⟩
    have hs := V3.step_in hd h0 h1 hk i
    exact ⟨(d.step m k i).toNat, by omega, V3.amongTo_hit hi (by omega), by omega⟩
  · rintro ⟨o, ho, ha, rfl⟩
    rw [V3.amongTo, List.any_eq_true] at ha
    obtain ⟨i, hi, he⟩ := ha
    exact ⟨i, List.mem_range.1 hi, by rw [of_decide_eq_true he]⟩
end

section
open Go.RowKit Go.Shelf
attribute [local go_sem] Oper.semAt_some

theorem own_slice_zero {w : World} {B : Nat} {v : Value} {xs : List Value} (h : w.ownsRow B 3 1 v 0 xs) : ∃ p cap, v = .slice p 0 cap := by
  rcases h.2 with ⟨rfl, _⟩ | ⟨g, cap, _, rfl, _⟩
  · exact ⟨_, _, rfl⟩
  · exact ⟨_, _, rfl⟩
set_option maxRecDepth 100000 in set_option maxHeartbeats 4000000 in
theorem slices_Sorted0 (g : Nat) (lb : Array Value) (eg : ∀ args w, (callFunc g args).run Tryz.prog w = .ok (.enter g args) w) (w : World) (hseq : Gives g lb [] w.heap.size w) :
    Calls Tryz.prog 102 #[.func (.func g) #[] lb] w (RL w []) := by
  have HC := Lib.hid (collect g lb eg [] w (Nat.zero_le _) hseq)
  have HS := Lib.hid (fun p cap W => Any.slices_Sort_int_none Tryz.laysSort p cap W)
  clear hseq
  go_enter Tryz.func102, Tryz.ntmps102
  go_wp2_with fail
  refine HC.out.mono ?_
  rintro e w1 ⟨v, rfl, ho, hb⟩
  obtain ⟨p, cap, rfl⟩ := own_slice_zero ho
  have HO := Lib.hid ho
  have HB := Lib.hid hb
  clear ho hb
  go_wp2_with fail
  refine (HS.out _ _ _).mono ?_
  rintro e w2 ⟨rfl, hw⟩
  have hw := hw.symm
  subst hw
  go_wp2_with fail
  go_returns
  exact ⟨_, rfl, HO.out, HB.out⟩
set_option maxRecDepth 100000 in set_option maxHeartbeats 4000000 in
/-- Along an axis of one midplane there is no cable. -/
theorem on_gives0 (b1 b2 b3 b4 n₀ : Nat) (d : V3) (k : Nat) (m : Int) (w : World) (hd : d.may) (hk : k < 3) (m0 : 0 ≤ m) (m1 : m < d.n) (hn1 : d.at k = 1) (h1 : b1 < n₀) (h2 : b2 < n₀) (h3 : b3 < n₀) (h4 : b4 < n₀) (hn₀ : n₀ ≤ w.heap.size)
    (ha : OnAt w b1 b2 b3 b4 d k m 1) :
    Gives 130 #[.pointer (some ⟨b1, 0, none⟩), .pointer (some ⟨b2, 0, none⟩), .pointer (some ⟨b3, 0, none⟩), .pointer (some ⟨b4, 0, none⟩)] [] n₀ w := by
  intro l J Jx W hW hJ _ hY h0
  have HA := Lib.hid (ha.keep (hW.mono hn₀) h1 h2 h3 h4)
  have HS1 := Lib.hid (fun W => pos_Step d m k 0 W hd m0 m1 hk (by omega) (by omega))
  have hx := V3.num_lt hd (V3.stepped_inside hd m0 m1 hk 0)
  have HL := Lib.hid (fun (x : Int) (hx : 0 ≤ x ∧ x < d.n) W => (show Calls Tryz.prog 132 #[.agg #[.int .i64 d.x, .int .i64 d.y, .int .i64 d.z], .int .i64 k, .int .i64 x] W (RB W (.tuple #[.int .i64 0, .int .i64 6])) by
    have h := wire_Link d k x W
    have ea : d.askE k x = 0 := by rw [V3.askE, if_pos hd, if_pos ⟨⟨by omega, by omega⟩, hx.1, hx.2⟩]
    have el : d.linkE k x = 6 := by rw [V3.linkE, if_pos ea, if_pos (by simpa using hn1)]
    have ev : d.linkV k x = 0 := by rw [V3.linkV, if_neg (by rw [el]; decide)]
    rwa [el, ev] at h))
  have HJ := Lib.hid (fun s W1 W2 (h : J s W1) (hb : Below W1.heap.size W1 W2) => hJ s W1 W2 none h (grown_none hb) (fun r e => by cases e))
  have hs0 : n₀ ≤ W.heap.size := Nat.le_trans hn₀ hW.size
  clear ha hY hJ hd m0 m1 hn1 hW
  rw [show d.step m k 0 = d.num (d.stepped m k 0) from rfl] at HS1
  obtain ⟨x, hxe⟩ : ∃ x, x = d.num (d.stepped m k 0) := ⟨_, rfl⟩
  rw [← hxe] at hx HS1
  clear hxe
  have HL1 := Lib.hid (fun W => HL.out x hx W)
  refine callsIn_of_wp Tryz.func130 rfl trivial ?_ rfl
  simp only [Tryz.ntmps130, List.size_toArray, List.length_cons, List.length_nil, Nat.reduceAdd, Nat.reduceSub, Array.replicate_succ, Array.replicate_zero, List.push_toArray, List.append_toArray, List.nil_append, List.cons_append]
  have c0 := HA.out.many
  gi_wp2
  refine wpIn_loop_rounds 2 ?_
  rw [roundsIn_succ]
  obtain ⟨u0, ⟨u1, u2, u3⟩, u4, u5⟩ := HA.out
  gi_wp2_with fail
  clear u0 u1 u2 u3 u4 u5
  refine ⟨trivial, ?_⟩
  refine (callsIn_wide.2 (HS1.out _)).mono ?_
  rintro e w1 ⟨rfl, hb1⟩
  have HJi := Lib.hid (HJ.out _ _ _ h0 hb1)
  have HO := Lib.hid (HA.out.keep hb1 (by omega) (by omega) (by omega) (by omega))
  have hz2 := hb1.size
  clear hb1
  obtain ⟨u0, ⟨u1, u2, u3⟩, u4, u5⟩ := HO.out
  gi_wp2_with fail
  clear u0 u1 u2 u3 u4 u5
  refine ⟨trivial, ?_⟩
  refine (callsIn_wide.2 (HL1.out _)).mono ?_
  rintro e w2 ⟨rfl, hb1⟩
  have HJi := Lib.hid (HJ.out _ _ _ HJi.out hb1)
  clear hb1
  gi_wp2
  refine ⟨fun _ h => (by cases h), ?_⟩
  gi_wp2
  exact bodyPost_ret (v := .tuple #[]) (by simp [results, Tryz.f130]) rfl ⟨⟨_, rfl⟩, .inl ⟨_, rfl, HJi.out⟩⟩

def V3.lineV (d : V3) (axis m : Int) : List Int := if d.askE axis m = 0 ∧ d.at axis.toNat ≠ 1 then sorted (d.links axis.toNat m (d.at axis.toNat).toNat) else []
end
end
end Go.Proofs.YtofoenlhbmammaaGreat
