/- SET: checked, cloned, joined; REF 03: its words and bits. -/
import Derived.Test.YtofoenlhbmammaaQ0Set1G13
set_option linter.unusedVariables false
set_option linter.unusedSimpArgs false
namespace Go.Proofs.Ytofoenlhbmammaa

section
section
open Go.RowKit Go.Shelf

/-- A new set is handed back. -/
def RU (w : World) (ws : List Nat) : Ending → World → Prop := fun e w' =>
  ∃ v, e = .returned v ∧ w'.ownsRow w.heap.size 48 1 v ws.length (wcells ws) ∧ Below w.heap.size w w'
/-- A new set, and an error. -/
def RUE (w : World) (ws : List Nat) (x : Int) : Ending → World → Prop := fun e w' =>
  ∃ v, e = .returned (.tuple #[v, .int .i64 x]) ∧ w'.ownsRow w.heap.size 48 1 v ws.length (wcells ws) ∧ Below w.heap.size w w'

theorem infoU64 : (Try.prog.info? 48).map (fun i => (i.zero, i.size, i.bytes)) = some (some (.int .u64 0), 1, 8) := by kernel_rfl

def sChk2 (n : Int) (a b : List Nat) : Int := if sChk n a = 0 then sChk n b else sChk n a

/-- A set that came in. -/
structure SetIn (w : World) (base : Option Addr) (ws : List Nat) : Prop where
  rd : Rd w base (wcells ws)
  len : ws.length ≤ 4611686018427387904
  fit : W64 ws
theorem SetIn.keep {w W : World} {base : Option Addr} {ws : List Nat} (h : SetIn w base ws) (hb : Below w.heap.size w W) : SetIn W base ws := ⟨h.rd.keep hb, h.len, h.fit⟩

set_option maxRecDepth 100000 in set_option maxHeartbeats 4000000 in
theorem set_checked (n : Int) (ba bb : Option Addr) (ca cb : Nat) (a b : List Nat) (w : World) (B : Nat) (ha : SetIn w ba a) (hb : SetIn w bb b)
    (h0 : w.cell? ⟨B, 0, none⟩ = some (.slice ba a.length ca)) (h1 : w.cell? ⟨B, 1, none⟩ = some (.slice bb b.length cb)) :
    Calls Try.prog 77 #[.int .i64 n, .slice (some ⟨B, 0, none⟩) 2 2] w fun e w' => e = .returned (.int .i64 (sChk2 n a b)) ∧ w' = w := by
  by_cases hz : sChk n a = 0
  · have hq := Lib.hid (show sChk2 n a b = sChk n b by rw [sChk2, if_pos hz])
    by_cases hy : sChk n b = 0
    · go_enter Try.func77, Try.ntmps77
      go_wp2_with fail
      refine wp_loop_rounds 3 ?_
      rw [rounds_succ]
      go_wp2_with fail
      refine (set_Check n ba ca a _ ha.rd ha.len ha.fit).mono ?_
      rintro e w1 ⟨rfl, rfl⟩
      go_wp2_with fail
      rw [rounds_succ]
      go_wp2_with fail
      refine (set_Check n bb cb b _ hb.rd hb.len hb.fit).mono ?_
      rintro e w1 ⟨rfl, rfl⟩
      go_wp2_with fail
      rw [rounds_succ]
      go_wp2_with fail
      go_returns
      exact ⟨by rw [hq.out, hy]; rfl, rfl⟩
    · have hy1 : (sChk n b == 0) = false := by simpa using hy
      have hy2 : (sChk n b != 0) = true := by simpa using hy
      clear hy
      go_enter Try.func77, Try.ntmps77
      go_wp2_with fail
      refine wp_loop_rounds 3 ?_
      rw [rounds_succ]
      go_wp2_with fail
      refine (set_Check n ba ca a _ ha.rd ha.len ha.fit).mono ?_
      rintro e w1 ⟨rfl, rfl⟩
      go_wp2_with fail
      rw [rounds_succ]
      go_wp2_with fail
      refine (set_Check n bb cb b _ hb.rd hb.len hb.fit).mono ?_
      rintro e w1 ⟨rfl, rfl⟩
      go_wp2_with fail
      go_returns
      exact ⟨by rw [hq.out]; rfl, rfl⟩
  · have hq := Lib.hid (show sChk2 n a b = sChk n a by rw [sChk2, if_neg hz])
    have hy1 : (sChk n a == 0) = false := by simpa using hz
    have hy2 : (sChk n a != 0) = true := by simpa using hz
    clear hz
    go_enter Try.func77, Try.ntmps77
    go_wp2_with fail
    refine wp_loop_rounds 3 ?_
    rw [rounds_succ]
    go_wp2_with fail
    refine (set_Check n ba ca a _ ha.rd ha.len ha.fit).mono ?_
    rintro e w1 ⟨rfl, rfl⟩
    go_wp2_with fail
    go_returns
    exact ⟨by rw [hq.out]; rfl, rfl⟩

theorem rd_cells {w : World} {b off : Nat} {xs : List Value} (h : Rd w (some ⟨b, off, none⟩) xs) : ∀ j u, xs[j]? = some u → w.cell? ((⟨b, off, none⟩ : Addr).add j) = some u := by
  intro j u hu
  obtain ⟨b', off', e, hc⟩ := h j u hu
  cases e
  rw [Addr.add_lit]
  exact hc

theorem wcells_one (ws : List Nat) : ∀ u ∈ wcells ws, u.oneCell' = true := by
  intro u hu
  simp only [wcells, List.mem_map] at hu
  obtain ⟨x, _, rfl⟩ := hu
  rfl

set_option maxRecDepth 100000 in set_option maxHeartbeats 4000000 in
theorem set_Clone (base : Option Addr) (cap : Nat) (ws : List Nat) (w : World) (hr : SetIn w base ws) (hl : ws.length * 8 ≤ 140737488355328) (hn : 0 < ws.length) :
    Calls Try.prog 78 #[.slice base ws.length cap] w (RU w ws) := by
  obtain ⟨i0, hi, iz0, iz1, iz2⟩ := info_parts infoU64
  obtain ⟨b, off, rfl, hc⟩ := hr.rd 0 _ (wcells_at hn)
  clear hc
  have hnil := fun (w : World) => Lib.run_eql_slice_nil (P := Try.prog) w 25 _ (some ⟨b, off, none⟩) ws.length cap 0 0 Try.underlying25
  have HR := Lib.hid hr
  clear hr
  go_enter Try.func78, Try.ntmps78
  go_wp2_with (at_builtin; refine wpList_append_own _ rfl _ _ 25 rfl w.heap.size 48 i0 (.int .u64 0) 1 8 Try.underlying25 hi iz0 iz1 iz2 rfl (by decide) _ _ _ rfl (World.ownsRow_made w #[] 0 (Nat.le_refl _) (by decide) (by simp)) ⟨b, off, none⟩ ws.length cap (wcells ws) rfl (by rw [wcells_len]; omega) (rd_cells (HR.out.rd.keep (below_alloc (Below.refl _ _) _))) (wcells_one ws) ?ap3 ?ap4 ?ap5 ?_)
  case ap3 => unfold maxLen; omega
  case ap4 => omega
  case ap5 => simp
  intro v' w1 o1 hg1 _
  have hb1 := own_below (size := 1) (World.ownsRow_made w #[] 0 (Nat.le_refl _) (by decide) (by simp)) hg1 (by simp)
  go_wp2_with fail
  go_returns
  refine ⟨_, rfl, by simpa using o1, ?_⟩
  exact ((Below.refl w.heap.size w).alloc (Nat.le_refl _) _).trans hb1

/-- Words joined up to the k-th. -/
def mixTo (f : Nat → Nat → Nat) (a b : List Nat) (k : Nat) : List Nat := (List.zipWith f a b).take k ++ a.drop k
theorem mixTo_zero (f : Nat → Nat → Nat) (a b : List Nat) : mixTo f a b 0 = a := by simp [mixTo]
theorem mixTo_len (f : Nat → Nat → Nat) (a b : List Nat) (k : Nat) (h : a.length = b.length) (hk : k ≤ a.length) : (mixTo f a b k).length = a.length := by
  simp [mixTo, h]; omega
theorem mixTo_all (f : Nat → Nat → Nat) (a b : List Nat) (h : a.length = b.length) : mixTo f a b a.length = List.zipWith f a b := by
  unfold mixTo
  rw [List.take_of_length_le (by simp; omega), List.drop_of_length_le (Nat.le_refl _), List.append_nil]
theorem mixTo_at (f : Nat → Nat → Nat) (a b : List Nat) (k : Nat) (h : a.length = b.length) (hk : k < a.length) : (mixTo f a b k)[k]? = some a[k] := by
  unfold mixTo
  rw [List.getElem?_append_right (by simp; omega), List.getElem?_drop]
  have e : k + (k - (List.take k (List.zipWith f a b)).length) = k := by simp; omega
  rw [e]; simp [hk]
theorem mixTo_succ (f : Nat → Nat → Nat) (a b : List Nat) (k : Nat) (h : a.length = b.length) (hk : k < a.length) (hkb : k < b.length) :
    (mixTo f a b k).set k (f a[k] b[k]) = mixTo f a b (k + 1) := by
  apply List.ext_getElem?
  intro i
  simp only [mixTo, List.getElem?_set, List.getElem?_append, List.length_append, List.length_take, List.length_zipWith, List.length_drop, List.getElem?_take, List.getElem?_drop, List.getElem?_zipWith]
  have e : min a.length b.length = a.length := by omega
  rw [e, show min k a.length = k by omega, show min (k + 1) a.length = k + 1 by omega]
  by_cases h1 : i = k
  · subst h1; simp [hk, hkb]; omega
  · by_cases h2 : i < k
    · simp [h1, h2, show i < k + 1 by omega, Ne.symm h1]
    · rw [if_neg (Ne.symm h1), if_neg h2, if_neg (by omega)]
      congr 1; omega

/-- A closure that joins two words. -/
def Joins (P : Program) (g : Nat) (f : Nat → Nat → Nat) : Prop :=
  ∀ (x y : Nat) (W : World), x < 18446744073709551616 → y < 18446744073709551616 → Calls P g #[.int .u64 (x : Int), .int .u64 (y : Int)] W fun e w' => e = .returned (.int .u64 ((f x y : Nat) : Int)) ∧ w' = W

theorem sMay_len {n : Int} {ws : List Nat} (h : sChk n ws = 0) : nMay n ∧ ws.length = nWords n ∧ topClear n ws = true := by
  unfold sChk okIf at h
  by_cases hn : nMay n
  · rw [if_pos hn] at h
    by_cases hs : setMay n ws
    · exact ⟨hn, hs.1, hs.2⟩
    · rw [if_neg hs] at h; omega
  · rw [if_neg hn] at h; omega
theorem sChk2_0 {n : Int} {a b : List Nat} (h : sChk2 n a b = 0) : sChk n a = 0 ∧ sChk n b = 0 := by
  unfold sChk2 at h
  by_cases ha : sChk n a = 0
  · rw [if_pos ha] at h; exact ⟨ha, h⟩
  · rw [if_neg ha] at h; exact absurd h ha

set_option maxRecDepth 100000 in set_option maxHeartbeats 4000000 in
theorem set_joined_no (n : Int) (ba bb : Option Addr) (ca cb : Nat) (a b : List Nat) (w : World) (g : Nat) (ha : SetIn w ba a) (hb : SetIn w bb b) (h : ¬ sChk2 n a b = 0) :
    Calls Try.prog 53 #[.int .i64 n, .slice ba a.length ca, .slice bb b.length cb, .func (.func g) #[] #[]] w (RUE w [] (sChk2 n a b)) := by
  have hn : (sChk2 n a b == 0) = false := by simpa using h
  have hm : (sChk2 n a b != 0) = true := by simpa using h
  clear h
  have hal : ∀ o, SetIn (w.alloc o) ba a := fun o => ha.keep (below_alloc (Below.refl _ _) _)
  have hbl : ∀ o, SetIn (w.alloc o) bb b := fun o => hb.keep (below_alloc (Below.refl _ _) _)
  have hal := Lib.hid hal
  have hbl := Lib.hid hbl
  go_enter Try.func53, Try.ntmps53
  go_wp2_with fail
  refine (set_checked n ba bb ca cb a b _ _ (hal.out _) (hbl.out _) (by simp [go_sem]) (by simp [go_sem])).mono ?_
  rintro e w1 ⟨rfl, rfl⟩
  go_wp2_with fail
  go_returns
  exact ⟨_, rfl, World.ownsRow_nil _ _ _ _, by (repeat (first | (with_reducible exact Below.refl _ _) | (with_reducible assumption) | (with_reducible refine below_alloc ?_ _) | (with_reducible refine below_drewN ?_ _) | (with_reducible refine Below.drew ?_) | (with_reducible refine below_then ?_ (by with_reducible assumption)) | (with_reducible refine Below.setCell ?_ (by go_size) _)))⟩

set_option maxRecDepth 100000 in set_option maxHeartbeats 4000000 in
theorem set_joined_ok (n : Int) (ba bb : Option Addr) (ca cb : Nat) (a b : List Nat) (w : World) (g : Nat) (f : Nat → Nat → Nat) (ha : SetIn w ba a) (hb : SetIn w bb b) (h : sChk2 n a b = 0)
    (eg : ∀ args w, (callFunc g args).run Try.prog w = .ok (.enter g args) w) (hf : Joins Try.prog g f) :
    Calls Try.prog 53 #[.int .i64 n, .slice ba a.length ca, .slice bb b.length cb, .func (.func g) #[] #[]] w (RUE w (List.zipWith f a b) 0) := by
  obtain ⟨h1, h2⟩ := sChk2_0 h
  obtain ⟨hn, hla, _⟩ := sMay_len h1
  obtain ⟨_, hlb, _⟩ := sMay_len h2
  have hp := nWords_pos hn
  have hlen := hla.trans hlb.symm
  have hal : ∀ o, SetIn (w.alloc o) ba a := fun o => ha.keep (below_alloc (Below.refl _ _) _)
  have hbl : ∀ o, SetIn (w.alloc o) bb b := fun o => hb.keep (below_alloc (Below.refl _ _) _)
  have hal := Lib.hid hal
  have hbl := Lib.hid hbl
  have HF := Lib.hid hf
  have HA := Lib.hid ha
  have HB := Lib.hid hb
  have HL := Lib.hid hlen
  have hap : 0 < a.length ∧ a.length ≤ 192 := by omega
  have hab1 : b.length ≤ a.length := by omega
  have hab2 : a.length ≤ b.length := by omega
  clear ha hb hf h1 h2 hn hla hlb hp hlen
  go_enter Try.func53, Try.ntmps53
  go_wp2_with fail
  refine (set_checked n ba bb ca cb a b _ _ (hal.out _) (hbl.out _) (by simp [go_sem]) (by simp [go_sem])).mono ?_
  rintro e w1 ⟨rfl, rfl⟩
  go_wp2_with fail
  refine (set_Clone ba ca a _ (hal.out _) (by omega) hap.1).mono ?_
  rintro e w2 ⟨v, rfl, ho, hb2⟩
  have hB2 : Below w.heap.size w w2 := by (repeat (first | (with_reducible exact Below.refl _ _) | (with_reducible assumption) | (with_reducible refine below_alloc ?_ _) | (with_reducible refine below_drewN ?_ _) | (with_reducible refine Below.drew ?_) | (with_reducible refine below_then ?_ (by with_reducible assumption)) | (with_reducible refine Below.setCell ?_ (by go_size) _)))
  obtain ⟨G, cap, cur, hv, hG, hGG, hcap, hcap2, _⟩ := ho.2.resolve_left (fun h => by omega)
  subst hv
  rw [World.size_alloc] at ho hG
  clear hGG
  have ho' : w2.ownsRow w.heap.size 48 1 (.slice (some ⟨G, 0, none⟩) a.length cap) a.length (wcells (mixTo f a b 0)) := by rw [mixTo_zero]; exact own_mono ho (by omega)
  go_wp2_with fail
  clear ho hb2
  go_loopw [26] (fun i wr => ∃ k : Nat, k ≤ a.length ∧ i = .int .i64 k ∧ wr.ownsRow w.heap.size 48 1 (.slice (some ⟨G, 0, none⟩) a.length cap) a.length (wcells (mixTo f a b k)) ∧ Below w.heap.size w wr) (fun i _ => a.length - (intOf i).toNat)
  case atStart => exact ⟨0, Nat.zero_le _, rfl, ho', hB2⟩
  case round =>
    obtain ⟨k, hk, rfl, hown, hbel⟩ := hrel
    have HO := Lib.hid hown
    clear hown ho' hB2
    by_cases hlt : k < a.length
    · have hltb : k < b.length := by have := HL.out; omega
      have hx : a[k] < 18446744073709551616 := HA.out.fit _ (List.getElem_mem hlt)
      have hy : b[k] < 18446744073709551616 := HB.out.fit _ (List.getElem_mem hltb)
      obtain ⟨bB, off, rfl, hcb⟩ := (HB.out.keep hbel).rd k _ (wcells_at hltb)
      have hca : wr.cell? ⟨G, k, none⟩ = some (.int .u64 (a[k] : Int)) := by
        rw [HO.out.cellAt k (by omega)]
        simp only [wcells, List.getElem?_map, mixTo_at f a b k HL.out hlt]; rfl
      have hfa : wr.frozen? ⟨G, k, none⟩ = false := HO.out.frozenAt k
      have hs := Lib.hid (HO.out.stored k (.int .u64 ((f a[k] b[k] : Nat) : Int)))
      have hm := Lib.hid (mixTo_succ f a b k HL.out hlt hltb)
      have hLL := Lib.hid HL.out
      have hc := Lib.hid (HF.out a[k] b[k] wr hx hy)
      obtain ⟨x, hxx⟩ : ∃ x, x = a[k] := ⟨_, rfl⟩
      obtain ⟨y, hyy⟩ : ∃ y, y = b[k] := ⟨_, rfl⟩
      rw [← hxx, ← hyy] at hs hm hc
      rw [← hxx] at hca hx
      rw [← hyy] at hcb hy
      clear hxx hyy
      go_wp2_with ((with_reducible refine hc.out.mono ?_); rintro e w3 ⟨rfl, rfl⟩)
      have hst : wcells (mixTo f a b (k + 1)) = (wcells (mixTo f a b k)).set k (.int .u64 ((f x y : Nat) : Int)) := by rw [← hm.out]; simp [wcells, List.map_set]
      have hst := Lib.hid hst
      go_roundw
      case rel => exact ⟨k + 1, by omega, by go_num, by rw [hst.out]; exact hs.out.1, hbel.setCell (p := ⟨G, k, none⟩) (show w.heap.size ≤ G by omega) _⟩
      case measure => simp [intOf]; omega
    · obtain rfl : k = a.length := by omega
      have hm := Lib.hid (mixTo_all f a b HL.out)
      have hzl := Lib.hid (show (List.zipWith f a b).length = a.length by have := HL.out; simp; omega)
      go_wp2_with fail
      go_returns
      exact ⟨_, rfl, by rw [hzl.out, ← hm.out]; exact HO.out, hbel⟩

def andW (x y : Nat) : Nat := x &&& y
def orW (x y : Nat) : Nat := x ||| y
def lessW (x y : Nat) : Nat := x &&& (18446744073709551615 - y)

set_option maxRecDepth 100000 in set_option maxHeartbeats 4000000 in
theorem Or_joins : Joins Try.prog 54 orW := by
  intro x y W hx hy
  have hb := Lib.hid (u64_or_nat x y hx hy)
  go_enter Try.func54, Try.ntmps54
  go_wp2
  go_returns
  exact ⟨by unfold orW; rw [← hb.out]; rfl, rfl⟩

set_option maxRecDepth 100000 in set_option maxHeartbeats 4000000 in
theorem set_Or (n : Int) (ba bb : Option Addr) (ca cb : Nat) (a b : List Nat) (w : World) (ha : SetIn w ba a) (hb : SetIn w bb b) :
    Calls Try.prog 27 #[.int .i64 n, .slice ba a.length ca, .slice bb b.length cb] w (RUE w (if sChk2 n a b = 0 then List.zipWith orW a b else []) (sChk2 n a b)) := by
  have eg : ∀ args w, (callFunc 54 args).run Try.prog w = .ok (.enter 54 args) w := enters_of Try.func54 (by kernel_rfl) rfl
  by_cases h : sChk2 n a b = 0
  · rw [if_pos h, h]
    have HE := Lib.hid eg
    have HH := Lib.hid h
    have HA := Lib.hid ha
    have HB := Lib.hid hb
    clear ha hb h eg
    go_enter Try.func27, Try.ntmps27
    go_wp2_with fail
    refine (set_joined_ok n ba bb ca cb a b _ _ _ HA.out HB.out HH.out HE.out Or_joins).mono ?_
    rintro e w1 ⟨v, rfl, ho, hb1⟩
    go_wp2_with fail
    go_returns
    exact ⟨v, rfl, ho, hb1⟩
  · rw [if_neg h]
    have HH := Lib.hid h
    have HA := Lib.hid ha
    have HB := Lib.hid hb
    clear ha hb h eg
    go_enter Try.func27, Try.ntmps27
    go_wp2_with fail
    refine (set_joined_no n ba bb ca cb a b _ _ HA.out HB.out HH.out).mono ?_
    rintro e w1 ⟨v, rfl, ho, hb1⟩
    go_wp2_with fail
    go_returns
    exact ⟨v, rfl, ho, hb1⟩

end

section
open Go.RowKit Go.Shelf

/-- The bit of a word. -/
def bitOf (x j : Nat) : Bool := x / 2 ^ j % 2 == 1
/-- Is a number in a set? -/
def there (ws : List Nat) (k : Nat) : Bool := bitOf (ws.getD (k / 64) 0) (k % 64)
theorem there_out {ws : List Nat} {k : Nat} (h : ws.length ≤ k / 64) : there ws k = false := by
  unfold there; rw [List.getD_eq_getElem?_getD, List.getElem?_eq_none h]; simp [bitOf]
theorem there_in {ws : List Nat} {k : Nat} (h : k / 64 < ws.length) : there ws k = bitOf ws[k / 64] (k % 64) := by
  unfold there; simp [h]

set_option maxRecDepth 100000 in set_option maxHeartbeats 4000000 in
theorem ref03_There_neg (base : Option Addr) (cap : Nat) (ws : List Nat) (k : Int) (w : World) (hk : k < 0) :
    Calls Try.prog 75 #[.slice base ws.length cap, .int .i64 k] w fun e w' => e = .returned (.bool false) ∧ w' = w := by
  go_enter Try.func75, Try.ntmps75
  go_wp2_with fail
  go_returns
  exact ⟨rfl, rfl⟩

theorem u64_bit (x : Nat) (j : Nat) (hx : x < 18446744073709551616) : (bits .and .u64 ((x : Int) / 2 ^ j) 1 == 1) = bitOf x j := by
  have e0 : (x : Int) / 2 ^ j = ((x / 2 ^ j : Nat) : Int) := by simp
  rw [e0]
  have h1 : x / 2 ^ j < 18446744073709551616 := Nat.lt_of_le_of_lt (Nat.div_le_self _ _) hx
  have h2 := u64_and_nat (x / 2 ^ j) 1 h1 (by decide)
  rw [show ((1 : Nat) : Int) = 1 from rfl] at h2
  rw [h2, nat_mask1, bitOf]
  rcases Nat.mod_two_eq_zero_or_one (x / 2 ^ j) with h | h <;> rw [h] <;> rfl

set_option maxRecDepth 100000 in set_option maxHeartbeats 4000000 in
theorem ref03_There (base : Option Addr) (cap : Nat) (ws : List Nat) (k : Nat) (w : World) (hr : SetIn w base ws) (hk : k ≤ 1000000) :
    Calls Try.prog 75 #[.slice base ws.length cap, .int .i64 (k : Int)] w fun e w' => e = .returned (.bool (there ws k)) ∧ w' = w := by
  have hlen := hr.len
  by_cases h : k / 64 < ws.length
  · obtain ⟨b, off, rfl, hc⟩ := hr.rd _ _ (wcells_at h)
    have hb := hr.fit _ (List.getElem_mem h)
    have hq := Lib.hid (there_in h)
    obtain ⟨x, hx⟩ : ∃ x, x = ws[k / 64] := ⟨_, rfl⟩
    rw [← hx] at hc hb hq
    clear hx hr
    go_enter Try.func75, Try.ntmps75
    have hu := Lib.hid (u64_bit x (k % 64) hb)
    go_wp2_with fail
    go_returns
    exact ⟨by rw [hq.out, ← hu.out]; rfl, rfl⟩
  · have hq := Lib.hid (there_out (ws := ws) (k := k) (by omega))
    clear hr
    go_enter Try.func75, Try.ntmps75
    go_wp2_with fail
    go_returns
    exact ⟨by rw [hq.out]; rfl, rfl⟩

/-- No bit from n up to k. -/
def clearTo (ws : List Nat) (n k : Nat) : Bool := (List.range (k - n)).all (fun j => !there ws (n + j))
theorem clearTo_zero (ws : List Nat) (n : Nat) : clearTo ws n n = true := by simp [clearTo]
theorem clearTo_succ (ws : List Nat) (n k : Nat) (h : n ≤ k) : clearTo ws n (k + 1) = (clearTo ws n k && !there ws k) := by
  unfold clearTo
  rw [show k + 1 - n = (k - n) + 1 by omega, List.range_succ, List.all_append]
  simp [show n + (k - n) = k by omega]
theorem clearTo_no (ws : List Nat) (n k m : Nat) (h : n ≤ k) (hk : k < m) (ht : there ws k = true) : clearTo ws n m = false := by
  rw [← Bool.not_eq_true]
  unfold clearTo
  rw [List.all_eq_true]
  intro hc
  have := hc (k - n) (by simp; omega)
  rw [show n + (k - n) = k by omega, ht] at this
  cases this

/-- May a set be, as the reference asks it. -/
def refMay (n : Int) (ws : List Nat) : Bool := decide (ws.length = nWords n) && clearTo ws n.toNat (64 * nWords n)

set_option maxRecDepth 100000 in set_option maxHeartbeats 4000000 in
theorem ref03_May (n : Int) (base : Option Addr) (cap : Nat) (ws : List Nat) (w : World) (hr : SetIn w base ws) (hn : nMay n) :
    Calls Try.prog 72 #[.int .i64 n, .slice base ws.length cap] w fun e w' => e = .returned (.bool (refMay n ws)) ∧ w' = w := by
  have hp := nWords_pos hn
  have hlen := hr.len
  have HR := Lib.hid hr
  have hn' := hn
  unfold nMay at hn'
  obtain ⟨n0, n1⟩ := hn'
  have hw0 : 64 * ((nWords n : Int) - 1) < n := by unfold nWords; omega
  have hw1 : n ≤ 64 * (nWords n : Int) := by unfold nWords; omega
  clear hr hn
  go_enter Try.func72, Try.ntmps72
  go_wp2_with fail
  go_loop [5] (fun v => ∃ k : Nat, k ≤ nWords n ∧ v = .int .i64 k) (fun v => nWords n - (intOf v).toNat)
  case atStart => exact ⟨0, Nat.zero_le _, rfl⟩
  case round =>
    obtain ⟨k, hk, rfl⟩ := hrel
    by_cases hlt : k < nWords n
    · have h64 : 64 * (k : Int) < n := by omega
      go_wp2_with fail
      go_round
      case rel => exact ⟨k + 1, by omega, by go_num⟩
      case measure => simp [intOf]; omega
    · obtain rfl : k = nWords n := by omega
      by_cases hl : ws.length = nWords n
      · have e1 : ((ws.length : Int) != (nWords n : Int)) = false := by rw [bne_eq_false_iff_eq]; omega
        have hq := Lib.hid (show refMay n ws = clearTo ws n.toNat (64 * nWords n) by simp [refMay, hl])
        have hl1 : ws.length ≤ nWords n := by omega
        have hl2 : nWords n ≤ ws.length := by omega
        clear hl
        go_wp2_with fail
        go_loop [6] (fun v => ∃ k : Nat, n.toNat ≤ k ∧ k ≤ 64 * nWords n ∧ v = .int .i64 k ∧ clearTo ws n.toNat k = true) (fun v => 64 * nWords n - (intOf v).toNat)
        case atStart => exact ⟨n.toNat, Nat.le_refl _, by omega, by rw [Int.toNat_of_nonneg (by omega)], clearTo_zero _ _⟩
        case round =>
          obtain ⟨k, hk0, hk1, rfl, hcl⟩ := hrel
          have HC := Lib.hid hcl
          clear hcl
          by_cases hlt2 : k < 64 * nWords n
          · cases ht : there ws k with
            | true =>
              have hf := Lib.hid (hq.out.trans (clearTo_no ws n.toNat k _ hk0 hlt2 ht))
              go_wp2_with ((go_at_call 75; refine (ref03_There base cap ws k _ HR.out (by omega)).mono ?_; rintro e w1 ⟨rfl, rfl⟩))
              go_returns
              exact ⟨by rw [hf.out]; rfl, rfl⟩
            | false =>
              have hf := Lib.hid ((clearTo_succ ws n.toNat k hk0).trans (by rw [HC.out, ht]; rfl : _ = true))
              go_wp2_with ((go_at_call 75; refine (ref03_There base cap ws k _ HR.out (by omega)).mono ?_; rintro e w1 ⟨rfl, rfl⟩))
              go_round
              case rel => exact ⟨k + 1, by omega, by omega, by go_num, hf.out⟩
              case measure => simp [intOf]; omega
          · obtain rfl : k = 64 * nWords n := by omega
            go_wp2_with fail
            go_returns
            exact ⟨by rw [hq.out, HC.out]; rfl, rfl⟩
      · have e1 : ((ws.length : Int) != (nWords n : Int)) = true := by rw [bne_iff_ne]; omega
        have hq := Lib.hid (show refMay n ws = false by simp [refMay, hl])
        go_wp2_with fail
        go_returns
        exact ⟨by rw [hq.out]; rfl, rfl⟩
end

section
open Go.RowKit Go.Shelf

theorem bitOf_test (x j : Nat) : bitOf x j = x.testBit j := by
  rw [bitOf, Nat.testBit_eq_decide_div_mod_eq]
  rcases Nat.mod_two_eq_zero_or_one (x / 2 ^ j) with h | h <;> rw [h] <;> rfl

theorem refMay_eq {n : Int} {ws : List Nat} (hn : nMay n) (hw : W64 ws) : refMay n ws = decide (setMay n ws) := by
  have hp := nWords_pos hn
  unfold nMay at hn
  by_cases hl : ws.length = nWords n
  · have hk : nWords n - 1 < ws.length := by omega
    have hx := hw _ (List.getElem_mem hk)
    have hg : ws.getD (nWords n - 1) 0 = ws[nWords n - 1] := by simp [hk]
    have e : setMay n ws ↔ topClear n ws = true := by simp [setMay, hl]
    rw [Bool.eq_iff_iff, decide_eq_true_iff, e]
    simp only [refMay, hl, decide_true, Bool.true_and, clearTo, List.all_eq_true, List.mem_range, Bool.not_eq_true', topClear, Bool.or_eq_true, decide_eq_true_eq, hg]
    have hn1 : n = 64 * ((nWords n : Int) - 1) + (if n % 64 = 0 then 64 else n % 64) := by unfold nWords; split <;> omega
    have inword : ∀ j, j < 64 → there ws (64 * (nWords n - 1) + j) = bitOf ws[nWords n - 1] j := by
      intro j hj
      have h1 : (64 * (nWords n - 1) + j) / 64 = nWords n - 1 := by omega
      have h2 : (64 * (nWords n - 1) + j) % 64 = j := by omega
      unfold there
      rw [h1, h2, hg]
    constructor
    · intro h
      by_cases hm : n % 64 = 0
      · exact .inl hm
      · refine .inr ?_
        rw [if_neg hm] at hn1
        apply Nat.div_eq_of_lt
        apply Nat.lt_pow_two_of_testBit
        intro i hi
        by_cases h64 : i < 64
        · have := h (i - (n % 64).toNat) (by omega)
          rw [show n.toNat + (i - (n % 64).toNat) = 64 * (nWords n - 1) + i by omega, inword i h64, bitOf_test] at this
          exact this
        · exact Nat.testBit_lt_two_pow (Nat.lt_of_lt_of_le hx (show 2 ^ 64 ≤ 2 ^ i from Nat.pow_le_pow_right (by decide) (by omega)))
    · rintro (hm | hm) j hj
      · rw [if_pos hm] at hn1
        omega
      · by_cases hz : n % 64 = 0
        · rw [if_pos hz] at hn1
          omega
        · rw [if_neg hz] at hn1
          have hlt : ws[nWords n - 1] < 2 ^ (n % 64).toNat := by
            rcases Nat.div_eq_zero_iff.1 hm with h | h
            · exact absurd h (by simp)
            · exact h
          rw [show n.toNat + j = 64 * (nWords n - 1) + ((n % 64).toNat + j) by omega, inword _ (by omega), bitOf_test]
          exact Nat.testBit_lt_two_pow (Nat.lt_of_lt_of_le hlt (Nat.pow_le_pow_right (by decide) (by omega)))
  · rw [show refMay n ws = false by simp [refMay, hl]]
    symm
    rw [decide_eq_false_iff_not]
    exact fun h => hl h.1


/-- A set's numbers below k. -/
def numsTo (ws : List Nat) (k : Nat) : List Int := ((List.range k).filter (there ws)).map (fun (j : Nat) => (j : Int))
def nums (ws : List Nat) : List Int := numsTo ws (64 * ws.length)
theorem numsTo_succ (ws : List Nat) (k : Nat) : numsTo ws (k + 1) = if there ws k then numsTo ws k ++ [(k : Int)] else numsTo ws k := by
  simp only [numsTo, List.range_succ, List.filter_append, List.filter_cons, List.filter_nil]
  split <;> simp
theorem numsTo_len (ws : List Nat) (k : Nat) : (numsTo ws k).length ≤ k := by
  have := List.length_filter_le (there ws) (List.range k)
  simpa [numsTo] using this
theorem mem_nums {ws : List Nat} {x : Int} : x ∈ nums ws ↔ ∃ k : Nat, x = (k : Int) ∧ k < 64 * ws.length ∧ there ws k = true := by
  simp only [nums, numsTo, List.mem_map, List.mem_filter, List.mem_range]
  constructor
  · rintro ⟨k, ⟨h1, h2⟩, rfl⟩; exact ⟨k, rfl, h1, h2⟩
  · rintro ⟨k, rfl, h1, h2⟩; exact ⟨k, ⟨h1, h2⟩, rfl⟩

theorem ref03_sameAt {a b : List Nat} {k : Nat} (hl : a.length = b.length) (ha : k < a.length) (hb : k < b.length) (he : a.take k = b.take k) : a.take (k + 1) = b.take (k + 1) ↔ a[k] = b[k] := by
  rw [List.take_succ_eq_append_getElem ha, List.take_succ_eq_append_getElem hb, he]
  simp only [List.append_cancel_left_eq, List.cons.injEq, and_true]

end

section
open Go.RowKit Go.Shelf

/-- A word with one bit more. -/
def putBit (ws : List Nat) (k : Nat) : List Nat := ws.set (k / 64) (ws.getD (k / 64) 0 ||| 2 ^ (k % 64))
/-- The set of those below k of which something holds. -/
def fillTo (m : Nat) (p : Nat → Bool) : Nat → List Nat
  | 0 => List.replicate m 0
  | k + 1 => if p k then putBit (fillTo m p k) k else fillTo m p k
theorem putBit_len (ws : List Nat) (k : Nat) : (putBit ws k).length = ws.length := by simp [putBit]
theorem fillTo_len (m : Nat) (p : Nat → Bool) (k : Nat) : (fillTo m p k).length = m := by
  induction k with
  | zero => simp [fillTo]
  | succ k ih => simp only [fillTo]; split <;> simp [putBit_len, ih]
theorem putBit_fit {ws : List Nat} {k : Nat} (h : W64 ws) : W64 (putBit ws k) := by
  intro x hx
  unfold putBit at hx
  rcases List.mem_or_eq_of_mem_set hx with hm | rfl
  · exact h x hm
  · have h1 : ws.getD (k / 64) 0 < 2 ^ 64 := by
      by_cases hk : k / 64 < ws.length
      · have := h _ (List.getElem_mem hk); simpa [hk] using this
      · rw [List.getD_eq_getElem?_getD, List.getElem?_eq_none (by omega)]; decide
    exact Nat.or_lt_two_pow h1 (Nat.pow_lt_pow_right (by decide) (by omega))
theorem fillTo_fit (m : Nat) (p : Nat → Bool) (k : Nat) : W64 (fillTo m p k) := by
  induction k with
  | zero => intro x hx; simp [fillTo] at hx; omega
  | succ k ih => simp only [fillTo]; split; exact putBit_fit ih; exact ih
theorem there_putBit {ws : List Nat} {k i : Nat} (h : k / 64 < ws.length) : there (putBit ws k) i = (there ws i || decide (i = k)) := by
  unfold there putBit
  simp only [bitOf_test]
  by_cases hw : i / 64 = k / 64
  · rw [hw, show (ws.set (k / 64) (ws.getD (k / 64) 0 ||| 2 ^ (k % 64))).getD (k / 64) 0 = ws.getD (k / 64) 0 ||| 2 ^ (k % 64) by simp [h], Nat.testBit_or, Nat.testBit_two_pow]
    congr 1
    rw [decide_eq_decide]
    omega
  · have : (ws.set (k / 64) (ws.getD (k / 64) 0 ||| 2 ^ (k % 64))).getD (i / 64) 0 = ws.getD (i / 64) 0 := by
      rw [List.getD_eq_getElem?_getD, List.getElem?_set_ne (Ne.symm hw), ← List.getD_eq_getElem?_getD]
    rw [this, show decide (i = k) = false from decide_eq_false (by intro e; exact hw (by rw [e])), Bool.or_false]
theorem there_fillTo (m : Nat) (p : Nat → Bool) (k i : Nat) (hk : k ≤ 64 * m) : there (fillTo m p k) i = (decide (i < k) && p i) := by
  induction k with
  | zero =>
    have e : (List.replicate m 0).getD (i / 64) 0 = 0 := by
      rw [List.getD_eq_getElem?_getD, List.getElem?_replicate]; split <;> rfl
    simp only [fillTo, there, e, bitOf_test]
    simp
  | succ k ih =>
    have ih := ih (by omega)
    simp only [fillTo]
    by_cases hp : p k = true
    · rw [if_pos hp, there_putBit (by rw [fillTo_len]; omega), ih]
      by_cases e : i = k
      · subst e; simp [hp]
      · simp [e, show (i < k + 1) = (i < k) by rw [eq_iff_iff]; omega]
    · rw [if_neg hp, ih]
      by_cases e : i = k
      · subst e; simp [hp]
      · simp [show (i < k + 1) = (i < k) by rw [eq_iff_iff]; omega]

/-- Two sets of as many words are one, if they have the same numbers. -/
theorem sets_ext {a b : List Nat} (hl : a.length = b.length) (ha : W64 a) (hb : W64 b) (h : ∀ i, i < 64 * a.length → there a i = there b i) : a = b := by
  apply List.ext_getElem hl
  intro j h1 h2
  apply Nat.eq_of_testBit_eq
  intro i
  by_cases hi : i < 64
  · have := h (64 * j + i) (by omega)
    rw [there_in (by omega : (64 * j + i) / 64 < a.length), there_in (by omega : (64 * j + i) / 64 < b.length)] at this
    simp only [bitOf_test, show (64 * j + i) / 64 = j by omega, show (64 * j + i) % 64 = i by omega] at this
    exact this
  · have p : 2 ^ 64 ≤ 2 ^ i := Nat.pow_le_pow_right (by decide) (by omega)
    rw [Nat.testBit_lt_two_pow (Nat.lt_of_lt_of_le (ha _ (List.getElem_mem h1)) p), Nat.testBit_lt_two_pow (Nat.lt_of_lt_of_le (hb _ (List.getElem_mem h2)) p)]

/-- The rule by which a number is in a set of two. -/
def rule (both first second x y : Bool) : Bool := x && y && both || x && !y && first || !x && y && second

theorem shl_bit (j : Nat) (h : j < 64) : IntKind.u64.wrap ((2 : Int) ^ j) = ((2 ^ j : Nat) : Int) := by
  rw [IntKind.wrap_u64]
  have h1 : (2 ^ j : Nat) < 18446744073709551616 := Nat.lt_of_lt_of_le (Nat.pow_lt_pow_right (by decide) h) (by decide)
  have e : ((2 : Int) ^ j) = ((2 ^ j : Nat) : Int) := by simp
  rw [e]
  generalize (2 ^ j : Nat) = q at *
  omega
end
end
end Go.Proofs.Ytofoenlhbmammaa
