/- GROW: the check; a closure asked of each number of a list; whether a box is free of a set: the code's. -/
import Derived.Test.YtofoenlhbmammaaQ0BoxNodesG13
import Derived.Test.YtofoenlhbmammaaQ0BoxRowG13
import Derived.Test.YtofoenlhbmammaaQ0GrowListG13
set_option linter.unusedVariables false
set_option linter.unusedSimpArgs false
namespace Go.Proofs.Ytofoenlhbmammaa

section
open Go.RowKit Go.Shelf

def growE (d : V3) (ms : List Nat) : Int := if d.may then (if sChk d.n ms = 0 then 0 else 8) else 8
def growN (d : V3) (ms : List Nat) : Int := if growE d ms = 0 then d.n else 0
theorem growE_0 {d : V3} {ms : List Nat} (h : growE d ms = 0) : d.may ∧ sChk d.n ms = 0 := by
  unfold growE at h
  by_cases h1 : d.may
  · rw [if_pos h1] at h
    by_cases h2 : sChk d.n ms = 0
    · exact ⟨h1, h2⟩
    · rw [if_neg h2] at h; omega
  · rw [if_neg h1] at h; omega
theorem growE_of {d : V3} {ms : List Nat} (h1 : d.may) (h2 : sChk d.n ms = 0) : growE d ms = 0 := by unfold growE; rw [if_pos h1, if_pos h2]
theorem growE_08 (d : V3) (ms : List Nat) : growE d ms = 0 ∨ growE d ms = 8 := by
  unfold growE
  by_cases h1 : d.may
  · rw [if_pos h1]
    by_cases h2 : sChk d.n ms = 0
    · rw [if_pos h2]; exact .inl rfl
    · rw [if_neg h2]; exact .inr rfl
  · rw [if_neg h1]; exact .inr rfl
set_option maxRecDepth 100000 in set_option maxHeartbeats 4000000 in
theorem grow_checked (d : V3) (bs : Option Addr) (cs : Nat) (ms : List Nat) (w : World) (hs : SetIn w bs ms) : Calls Try.prog 29 #[.agg #[.int .i64 d.x, .int .i64 d.y, .int .i64 d.z], .slice bs ms.length cs] w (RB w (.tuple #[.int .i64 (growN d ms), .int .i64 (growE d ms)])) := by
  have HA := Lib.hid (fun W (hw : Below w.heap.size w W) => set_Check d.n bs cs ms W (hs.keep hw).rd hs.len hs.fit)
  have HM := Lib.hid (fun W => pos_Many d W)
  have HE := Lib.hid (show growE d ms = if d.may then (if sChk d.n ms = 0 then 0 else 8) else 8 from rfl)
  have HN := Lib.hid (show growN d ms = if growE d ms = 0 then d.n else 0 from rfl)
  clear hs
  by_cases hd : d.may
  · rw [V3.many_ok hd, V3.err_ok hd] at HM
    rw [if_pos hd] at HE
    clear hd
    by_cases hz : sChk d.n ms = 0
    · rw [if_pos hz] at HE
      rw [HE.out, if_pos rfl] at HN
      rw [hz] at HA
      clear hz
      go_enter Try.func29, Try.ntmps29
      go_wp2_with ((with_reducible refine (HM.out _).mono ?_); rintro e w1 ⟨rfl, hb1⟩; (obtain ⟨hc1, hf1⟩ := bcell hb1; have hz1 := hb1.size; (try simp at hz1); have hB : Below w.heap.size w w1 := (by (repeat (first | (with_reducible exact Below.refl _ _) | (with_reducible assumption) | (with_reducible refine below_alloc ?_ _) | (with_reducible refine below_drewN ?_ _) | (with_reducible refine Below.drew ?_) | (with_reducible refine below_then ?_ (by with_reducible assumption)) | (with_reducible refine Below.setCell ?_ (by go_size) _)))); obtain ⟨hcB, hfB⟩ := bcell hB; (try have z0 : w.heap.size < w1.heap.size := by omega); (try have z1 : w.heap.size + 1 < w1.heap.size := by omega); (try have z2 : w.heap.size + 2 < w1.heap.size := by omega); (try have z3 : w.heap.size + 3 < w1.heap.size := by omega)))
      go_wp2_with ((with_reducible refine (HA.out _ hB).mono ?_); rintro e w3 ⟨rfl, hw3⟩; have hw3 := hw3.symm; subst hw3)
      go_returns
      exact ⟨by rw [HE.out, HN.out]; rfl, by (repeat (first | (with_reducible exact Below.refl _ _) | (with_reducible assumption) | (with_reducible refine below_alloc ?_ _) | (with_reducible refine below_drewN ?_ _) | (with_reducible refine Below.drew ?_) | (with_reducible refine below_then ?_ (by with_reducible assumption)) | (with_reducible refine Below.setCell ?_ (by go_size) _)))⟩
    · rw [if_neg hz] at HE
      rw [HE.out, if_neg (by decide)] at HN
      have hy2 : (sChk d.n ms != 0) = true := by simpa using hz
      generalize sChk d.n ms = x at *
      clear hz
      go_enter Try.func29, Try.ntmps29
      go_wp2_with ((with_reducible refine (HM.out _).mono ?_); rintro e w1 ⟨rfl, hb1⟩; (obtain ⟨hc1, hf1⟩ := bcell hb1; have hz1 := hb1.size; (try simp at hz1); have hB : Below w.heap.size w w1 := (by (repeat (first | (with_reducible exact Below.refl _ _) | (with_reducible assumption) | (with_reducible refine below_alloc ?_ _) | (with_reducible refine below_drewN ?_ _) | (with_reducible refine Below.drew ?_) | (with_reducible refine below_then ?_ (by with_reducible assumption)) | (with_reducible refine Below.setCell ?_ (by go_size) _)))); obtain ⟨hcB, hfB⟩ := bcell hB; (try have z0 : w.heap.size < w1.heap.size := by omega); (try have z1 : w.heap.size + 1 < w1.heap.size := by omega); (try have z2 : w.heap.size + 2 < w1.heap.size := by omega); (try have z3 : w.heap.size + 3 < w1.heap.size := by omega)))
      go_wp2_with ((with_reducible refine (HA.out _ hB).mono ?_); rintro e w3 ⟨rfl, hw3⟩; have hw3 := hw3.symm; subst hw3)
      go_returns
      exact ⟨by rw [HE.out, HN.out]; rfl, by (repeat (first | (with_reducible exact Below.refl _ _) | (with_reducible assumption) | (with_reducible refine below_alloc ?_ _) | (with_reducible refine below_drewN ?_ _) | (with_reducible refine Below.drew ?_) | (with_reducible refine below_then ?_ (by with_reducible assumption)) | (with_reducible refine Below.setCell ?_ (by go_size) _)))⟩
  · rw [V3.err_no hd] at HM
    rw [if_neg hd] at HE
    rw [HE.out, if_neg (by decide)] at HN
    clear hd HA
    go_enter Try.func29, Try.ntmps29
    go_wp2_with ((with_reducible refine (HM.out _).mono ?_); rintro e w1 ⟨rfl, hb1⟩; (obtain ⟨hc1, hf1⟩ := bcell hb1; have hz1 := hb1.size; (try simp at hz1); have hB : Below w.heap.size w w1 := (by (repeat (first | (with_reducible exact Below.refl _ _) | (with_reducible assumption) | (with_reducible refine below_alloc ?_ _) | (with_reducible refine below_drewN ?_ _) | (with_reducible refine Below.drew ?_) | (with_reducible refine below_then ?_ (by with_reducible assumption)) | (with_reducible refine Below.setCell ?_ (by go_size) _)))); obtain ⟨hcB, hfB⟩ := bcell hB; (try have z0 : w.heap.size < w1.heap.size := by omega); (try have z1 : w.heap.size + 1 < w1.heap.size := by omega); (try have z2 : w.heap.size + 2 < w1.heap.size := by omega); (try have z3 : w.heap.size + 3 < w1.heap.size := by omega)))
    go_returns
    exact ⟨by rw [HE.out, HN.out]; rfl, by (repeat (first | (with_reducible exact Below.refl _ _) | (with_reducible assumption) | (with_reducible refine below_alloc ?_ _) | (with_reducible refine below_drewN ?_ _) | (with_reducible refine Below.drew ?_) | (with_reducible refine below_then ?_ (by with_reducible assumption)) | (with_reducible refine Below.setCell ?_ (by go_size) _)))⟩

/-! ### a closure asked of each number of a list -/
def firstOf {α : Type} (p : α → Bool) (l : List α) : Int := if l.any p then ((l.findIdx p : Nat) : Int) else -1
theorem firstOf_ge {α : Type} (p : α → Bool) (l : List α) : decide (firstOf p l ≥ 0) = l.any p := by
  unfold firstOf; cases l.any p <;> simp
theorem firstOf_at {α : Type} {p : α → Bool} {l : List α} {k : Nat} (h : k < l.length) (h0 : (l.take k).any p = false) (hp : p l[k] = true) : firstOf p l = (k : Int) := by
  have ha : l.any p = true := List.any_eq_true.2 ⟨l[k], List.getElem_mem h, hp⟩
  unfold firstOf
  rw [if_pos ha]
  congr 1
  rw [List.findIdx_eq h]
  refine ⟨hp, fun j hj => ?_⟩
  have := List.any_eq_false.1 h0 (l[j]) (by rw [List.mem_take_iff_getElem]; exact ⟨j, by omega, rfl⟩)
  simpa using this
theorem firstOf_no {α : Type} {p : α → Bool} {l : List α} (h0 : l.any p = false) : firstOf p l = -1 := by unfold firstOf; rw [if_neg (by rw [h0]; decide)]
set_option maxRecDepth 100000 in set_option maxHeartbeats 4000000 in
theorem ints_index (g : Nat) (lb : Array Value) (p : Int → Bool) (base : Option Addr) (cap : Nat) (l : List Int) (w : World) (hl : LIn w base l) (eg : ∀ args w, (callFunc g args).run Try.prog w = .ok (.enter g args) w)
    (hf : ∀ x ∈ l, ∀ W, Below w.heap.size w W → Calls Try.prog g (#[.int .i64 x] ++ lb) W (RB W (.bool (p x)))) :
    Calls Try.prog 79 #[.slice base l.length cap, .func (.func g) #[] lb] w (RB w (.int .i64 (firstOf p l))) := by
  have HL := Lib.hid hl
  have HF := Lib.hid hf
  have hlen := hl.len
  clear hl hf
  go_enter Try.func79, Try.ntmps79
  go_wp2_with fail
  go_loopw [8] (fun i wr => ∃ k : Nat, k ≤ l.length ∧ i = .int .i64 k ∧ (l.take k).any p = false ∧ Below w.heap.size w wr) (fun i _ => l.length - (intOf i).toNat)
  case atStart => exact ⟨0, Nat.zero_le _, rfl, by simp, by (repeat (first | (with_reducible exact Below.refl _ _) | (with_reducible assumption) | (with_reducible refine below_alloc ?_ _) | (with_reducible refine below_drewN ?_ _) | (with_reducible refine Below.drew ?_) | (with_reducible refine below_then ?_ (by with_reducible assumption)) | (with_reducible refine Below.setCell ?_ (by go_size) _)))⟩
  case round =>
    obtain ⟨k, hk, rfl, h0, hb⟩ := hrel
    have HB := Lib.hid hb
    have H0 := Lib.hid h0
    clear hb h0
    by_cases hlt : k < l.length
    · obtain ⟨b, off, rfl, hc⟩ := (HL.out.keep HB.out).rd k _ (getElem?_map_int hlt)
      have hx := Lib.hid (any_take_succ hlt H0.out)
      have HP := Lib.hid (fun h => firstOf_at hlt H0.out h)
      have HA := Lib.hid (HF.out l[k] (List.getElem_mem hlt))
      obtain ⟨x, hxx⟩ : ∃ x, x = l[k] := ⟨_, rfl⟩
      rw [← hxx] at hc hx HA HP
      have hcl := World.block_lt_of_cell? wr _ hc
      simp only [] at hcl
      clear hxx
      cases hp : p x with
      | false =>
        rw [hp] at hx HA
        clear hp HP
        go_wp2_with ((with_reducible refine (HA.out _ (by with_reducible exact HB.out)).mono ?_); rintro e w3 ⟨rfl, hb3⟩)
        go_roundw
        case rel => exact ⟨k + 1, by omega, by go_num, hx.out, HB.out.trans (hb3.mono HB.out.size)⟩
        case measure => (simp [intOf] <;> omega)
      | true =>
        rw [hp] at HA
        have HP2 := Lib.hid (HP.out hp)
        clear hp HP hx
        go_wp2_with ((with_reducible refine (HA.out _ (by with_reducible exact HB.out)).mono ?_); rintro e w3 ⟨rfl, hb3⟩)
        go_returns
        exact ⟨by rw [HP2.out]; rfl, HB.out.trans (hb3.mono HB.out.size)⟩
    · obtain rfl : k = l.length := by omega
      have hn := Lib.hid (firstOf_no (by have := H0.out; rwa [List.take_length] at this))
      clear H0
      go_wp2_with fail
      go_returns
      exact ⟨by rw [hn.out]; rfl, HB.out⟩
set_option maxRecDepth 100000 in set_option maxHeartbeats 4000000 in
theorem ints_contains (g : Nat) (lb : Array Value) (p : Int → Bool) (base : Option Addr) (cap : Nat) (l : List Int) (w : World) (hl : LIn w base l) (eg : ∀ args w, (callFunc g args).run Try.prog w = .ok (.enter g args) w)
    (hf : ∀ x ∈ l, ∀ W, Below w.heap.size w W → Calls Try.prog g (#[.int .i64 x] ++ lb) W (RB W (.bool (p x)))) :
    Calls Try.prog 59 #[.slice base l.length cap, .func (.func g) #[] lb] w (RB w (.bool (l.any p))) := by
  have HS := Lib.hid (ints_index g lb p base cap l w hl eg hf)
  have hn := Lib.hid (firstOf_ge p l)
  clear hl hf
  generalize firstOf p l = x at *
  go_enter Try.func59, Try.ntmps59
  go_wp2_with fail
  refine HS.out.mono ?_
  rintro e w1 ⟨rfl, hb1⟩
  go_wp2_with fail
  go_returns
  exact ⟨by rw [← hn.out]; rfl, hb1⟩

/-! ### is a box free of a set? -/
set_option maxRecDepth 100000 in set_option maxHeartbeats 4000000 in
theorem grow_free1 (n x : Int) (bs : Option Addr) (cs Bn Bs : Nat) (ms : List Nat) (w : World) (hs : SetIn w bs ms) (hn : w.cell? ⟨Bn, 0, none⟩ = some (.int .i64 n)) (hm : w.cell? ⟨Bs, 0, none⟩ = some (.slice bs ms.length cs)) :
    Calls Try.prog 60 #[.int .i64 x, .pointer (some ⟨Bn, 0, none⟩), .pointer (some ⟨Bs, 0, none⟩)] w (RB w (.bool (hasV n ms x))) := by
  have HH := Lib.hid (fun W (hw : Below w.heap.size w W) => set_Has n bs cs ms x W (hs.keep hw))
  clear hs
  go_enter Try.func60, Try.ntmps60
  go_wp2_with fail
  refine (HH.out _ (by (repeat (first | (with_reducible exact Below.refl _ _) | (with_reducible assumption) | (with_reducible refine below_alloc ?_ _) | (with_reducible refine below_drewN ?_ _) | (with_reducible refine Below.drew ?_) | (with_reducible refine below_then ?_ (by with_reducible assumption)) | (with_reducible refine Below.setCell ?_ (by go_size) _))))).mono ?_
  rintro e w1 ⟨rfl, hb1⟩
  go_wp2_with fail
  go_returns
  exact ⟨rfl, hb1⟩
/-- Is a box, any one, free of a set? -/
def freeB (d : V3) (ms : List Nat) (b : Bx) : Bool := decide (chk d b = 0) && clearS d ms b
theorem freeB_ok {d : V3} {ms : List Nat} {b : Bx} (hd : d.may) (hb : b.may d) : freeB d ms b = clearS d ms b := by unfold freeB; rw [decide_eq_true (chk_of hd hb), Bool.true_and]
set_option maxRecDepth 100000 in set_option maxHeartbeats 4000000 in
theorem grow_free (d : V3) (b : Bx) (bs : Option Addr) (cs : Nat) (ms : List Nat) (w : World) (hs : SetIn w bs ms) (hc : sChk d.n ms = 0) :
    Calls Try.prog 31 #[.agg #[.int .i64 d.x, .int .i64 d.y, .int .i64 d.z], .agg #[.int .i64 b.b.x, .int .i64 b.b.y, .int .i64 b.b.z, .int .i64 b.s.x, .int .i64 b.s.y, .int .i64 b.s.z], .int .i64 d.n, .slice bs ms.length cs] w (RB w (.bool (freeB d ms b))) := by
  have HN := Lib.hid (fun W => box_Nodes d b W)
  have HF := Lib.hid (fun x Bn Bs W (hw : Below w.heap.size w W) h1 h2 => grow_free1 d.n x bs cs Bn Bs ms W (hs.keep hw) h1 h2)
  have HV := Lib.hid (fun (x : Int) => (show hasV d.n ms x = hasI ms x from if_pos hc))
  have HE := Lib.hid (show freeB d ms b = (decide (chk d b = 0) && clearS d ms b) from rfl)
  have eg : ∀ args w, (callFunc 60 args).run Try.prog w = .ok (.enter 60 args) w := enters_of Try.func60 (by kernel_rfl) rfl
  by_cases hz : chk d b = 0
  · have hnv : nodesV d b = b.all d := if_pos hz
    rw [hz, hnv] at HN
    rw [decide_eq_true hz, Bool.true_and] at HE
    have hal : (b.all d).length ≤ 4096 := by
      have h1 := Bx.upto_len d b d.n.toNat
      have h2 := V3.n_le (chk_may hz).1
      show (b.upto d d.n.toNat).length ≤ 4096
      omega
    have HC := Lib.hid (show clearS d ms b = !(b.all d).any (hasI ms) from rfl)
    generalize b.all d = L at *
    clear hs hc hz hnv
    go_enter Try.func31, Try.ntmps31
    go_wp2_with fail
    refine (HN.out _).mono ?_
    rintro e w1 ⟨v, rfl, ho, hb1⟩
    have hb00 : Below w.heap.size w ((((w.alloc (.cells #[.int .i64 d.x, .int .i64 d.y, .int .i64 d.z] 23)).alloc (.cells #[.int .i64 b.b.x, .int .i64 b.b.y, .int .i64 b.b.z, .int .i64 b.s.x, .int .i64 b.s.y, .int .i64 b.s.z] 27)).alloc (.cells #[.int .i64 d.n] 3)).alloc (.cells #[.slice bs ms.length cs] 25)) := by (repeat (first | (with_reducible exact Below.refl _ _) | (with_reducible assumption) | (with_reducible refine below_alloc ?_ _) | (with_reducible refine below_drewN ?_ _) | (with_reducible refine Below.drew ?_) | (with_reducible refine below_then ?_ (by with_reducible assumption)) | (with_reducible refine Below.setCell ?_ (by go_size) _)))
    have BN := (((Blk.new ((w.alloc (.cells #[.int .i64 d.x, .int .i64 d.y, .int .i64 d.z] 23)).alloc (.cells #[.int .i64 b.b.x, .int .i64 b.b.y, .int .i64 b.b.z, .int .i64 b.s.x, .int .i64 b.s.y, .int .i64 b.s.z] 27)) 3 #[.int .i64 d.n]).alloc (.cells #[.slice bs ms.length cs] 25)).below hb1)
    have BS := ((Blk.new (((w.alloc (.cells #[.int .i64 d.x, .int .i64 d.y, .int .i64 d.z] 23)).alloc (.cells #[.int .i64 b.b.x, .int .i64 b.b.y, .int .i64 b.b.z, .int .i64 b.s.x, .int .i64 b.s.y, .int .i64 b.s.z] 27)).alloc (.cells #[.int .i64 d.n] 3)) 25 #[.slice bs ms.length cs]).below hb1)
    have HB := Lib.hid (below_then hb00 hb1)
    simp only [World.size_alloc] at BN BS
    obtain ⟨base, cap, rfl, rd, _⟩ := own_rd ho
    have HR := Lib.hid rd
    have HBN := Lib.hid BN
    have HBS := Lib.hid BS
    clear ho hb1 hb00 BN BS rd HN
    go_wp2_with fail
    refine (ints_contains 60 _ (hasI ms) base cap L _ ⟨HR.out, by omega⟩ eg (fun x _ W hw => by rw [← HV.out]; exact HF.out x _ _ W (below_then HB.out hw) ((HBN.out.below hw).cell 0 _ rfl) ((HBS.out.below hw).cell 0 _ rfl))).mono ?_
    rintro e w2 ⟨rfl, hb2⟩
    go_wp2_with fail
    go_returns
    exact ⟨by rw [HE.out, HC.out]; rfl, below_then HB.out hb2⟩
  · have hy : (chk d b == 0) = false := by simpa using hz
    rw [decide_eq_false hz, Bool.false_and] at HE
    generalize nodesV d b = L at *
    generalize chk d b = x at *
    clear hs hc hz
    go_enter Try.func31, Try.ntmps31
    go_wp2_with fail
    refine (HN.out _).mono ?_
    rintro e w1 ⟨v, rfl, ho, hb1⟩
    have hb00 : Below w.heap.size w ((((w.alloc (.cells #[.int .i64 d.x, .int .i64 d.y, .int .i64 d.z] 23)).alloc (.cells #[.int .i64 b.b.x, .int .i64 b.b.y, .int .i64 b.b.z, .int .i64 b.s.x, .int .i64 b.s.y, .int .i64 b.s.z] 27)).alloc (.cells #[.int .i64 d.n] 3)).alloc (.cells #[.slice bs ms.length cs] 25)) := by (repeat (first | (with_reducible exact Below.refl _ _) | (with_reducible assumption) | (with_reducible refine below_alloc ?_ _) | (with_reducible refine below_drewN ?_ _) | (with_reducible refine Below.drew ?_) | (with_reducible refine below_then ?_ (by with_reducible assumption)) | (with_reducible refine Below.setCell ?_ (by go_size) _)))
    have HB := Lib.hid (below_then hb00 hb1)
    clear ho hb1 hb00
    go_wp2_with fail
    go_returns
    exact ⟨by rw [HE.out]; rfl, HB.out⟩
end
end Go.Proofs.Ytofoenlhbmammaa
