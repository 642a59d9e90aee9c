/- SET: the error of two sets; a set in new memory; sets joined word by word. -/
import Derived.Test.YthabpiphfaedaaaDoorSet1
namespace Go.Proofs.YthabpiphfaedaaaDoor
open Go.RowKit Go.Shelf

/-- A new set is handed back. -/
def RU (w : World) (ws : List Nat) : Ending → World → Prop := fun e w' =>
  ∃ v, e = .returned v ∧ w'.ownsRow w.heap.size 63 1 v ws.length (wcells ws) ∧ Below w.heap.size w w'
/-- A new set, and an error. -/
def RUE (w : World) (ws : List Nat) (x : Int) : Ending → World → Prop := fun e w' =>
  ∃ v, e = .returned (.tuple #[v, .int .i64 x]) ∧ w'.ownsRow w.heap.size 63 1 v ws.length (wcells ws) ∧ Below w.heap.size w w'

theorem infoU64 : (Tryd.prog.info? 63).map (fun i => (i.zero, i.size, i.bytes)) = some (some (.int .u64 0), 1, 8) := by kernel_rfl

def sChk2 (n : Int) (a b : List Nat) : Int := if sChk n a = 0 then sChk n b else sChk n a

/-- A set that came in. -/
structure SetIn (w : World) (base : Option Addr) (ws : List Nat) : Prop where
  rd : Rd w base (wcells ws)
  len : ws.length ≤ 4611686018427387904
  fit : W64 ws
theorem SetIn.keep {w W : World} {base : Option Addr} {ws : List Nat} (h : SetIn w base ws) (hb : Below w.heap.size w W) : SetIn W base ws := ⟨h.rd.keep hb, h.len, h.fit⟩

set_option maxRecDepth 100000 in set_option maxHeartbeats 4000000 in
theorem set_checked (n : Int) (ba bb : Option Addr) (ca cb : Nat) (a b : List Nat) (w : World) (B : Nat) (ha : SetIn w ba a) (hb : SetIn w bb b)
    (h0 : w.cell? ⟨B, 0, none⟩ = some (.slice ba a.length ca)) (h1 : w.cell? ⟨B, 1, none⟩ = some (.slice bb b.length cb)) :
    Calls Tryd.prog 84 #[.int .i64 n, .slice (some ⟨B, 0, none⟩) 2 2] w fun e w' => e = .returned (.int .i64 (sChk2 n a b)) ∧ w' = w := by
  by_cases hz : sChk n a = 0
  · have hq := Lib.hid (show sChk2 n a b = sChk n b by rw [sChk2, if_pos hz])
    by_cases hy : sChk n b = 0
    · go_enter Tryd.func84, Tryd.ntmps84
      go_wp2_with fail
      refine wp_loop_rounds 3 ?_
      rw [rounds_succ]
      go_wp2_with fail
      refine (set_Check n ba ca a _ ha.rd ha.len ha.fit).mono ?_
      rintro e w1 ⟨rfl, rfl⟩
      go_wp2_with fail
      rw [rounds_succ]
      go_wp2_with fail
      refine (set_Check n bb cb b _ hb.rd hb.len hb.fit).mono ?_
      rintro e w1 ⟨rfl, rfl⟩
      go_wp2_with fail
      rw [rounds_succ]
      go_wp2_with fail
      go_returns
      exact ⟨by rw [hq.out, hy]; rfl, rfl⟩
    · have hy1 : (sChk n b == 0) = false := by simpa using hy
      have hy2 : (sChk n b != 0) = true := by simpa using hy
      clear hy
      go_enter Tryd.func84, Tryd.ntmps84
      go_wp2_with fail
      refine wp_loop_rounds 3 ?_
      rw [rounds_succ]
      go_wp2_with fail
      refine (set_Check n ba ca a _ ha.rd ha.len ha.fit).mono ?_
      rintro e w1 ⟨rfl, rfl⟩
      go_wp2_with fail
      rw [rounds_succ]
      go_wp2_with fail
      refine (set_Check n bb cb b _ hb.rd hb.len hb.fit).mono ?_
      rintro e w1 ⟨rfl, rfl⟩
      go_wp2_with fail
      go_returns
      exact ⟨by rw [hq.out]; rfl, rfl⟩
  · have hq := Lib.hid (show sChk2 n a b = sChk n a by rw [sChk2, if_neg hz])
    have hy1 : (sChk n a == 0) = false := by simpa using hz
    have hy2 : (sChk n a != 0) = true := by simpa using hz
    clear hz
    go_enter Tryd.func84, Tryd.ntmps84
    go_wp2_with fail
    refine wp_loop_rounds 3 ?_
    rw [rounds_succ]
    go_wp2_with fail
    refine (set_Check n ba ca a _ ha.rd ha.len ha.fit).mono ?_
    rintro e w1 ⟨rfl, rfl⟩
    go_wp2_with fail
    go_returns
    exact ⟨by rw [hq.out]; rfl, rfl⟩

theorem rd_cells {w : World} {b off : Nat} {xs : List Value} (h : Rd w (some ⟨b, off, none⟩) xs) : ∀ j u, xs[j]? = some u → w.cell? ((⟨b, off, none⟩ : Addr).add j) = some u := by
  intro j u hu
  obtain ⟨b', off', e, hc⟩ := h j u hu
  cases e
  rw [Addr.add_lit]
  exact hc

theorem wcells_one (ws : List Nat) : ∀ u ∈ wcells ws, u.oneCell' = true := by
  intro u hu
  simp only [wcells, List.mem_map] at hu
  obtain ⟨x, _, rfl⟩ := hu
  rfl

set_option maxRecDepth 100000 in set_option maxHeartbeats 4000000 in
theorem set_Clone (base : Option Addr) (cap : Nat) (ws : List Nat) (w : World) (hr : SetIn w base ws) (hl : ws.length * 8 ≤ 140737488355328) (hn : 0 < ws.length) :
    Calls Tryd.prog 85 #[.slice base ws.length cap] w (RU w ws) := by
  obtain ⟨i0, hi, iz0, iz1, iz2⟩ := info_parts infoU64
  obtain ⟨b, off, rfl, hc⟩ := hr.rd 0 _ (wcells_at hn)
  clear hc
  have hnil := fun (w : World) => Lib.run_eql_slice_nil (P := Tryd.prog) w 31 _ (some ⟨b, off, none⟩) ws.length cap 0 0 Tryd.underlying31
  have HR := Lib.hid hr
  clear hr
  go_enter Tryd.func85, Tryd.ntmps85
  go_wp2_with (at_builtin; refine wpList_append_own _ rfl _ _ 31 rfl w.heap.size 63 i0 (.int .u64 0) 1 8 Tryd.underlying31 hi iz0 iz1 iz2 rfl (by decide) _ _ _ rfl (World.ownsRow_made w #[] 0 (Nat.le_refl _) (by decide) (by simp)) ⟨b, off, none⟩ ws.length cap (wcells ws) rfl (by rw [wcells_len]; omega) (rd_cells (HR.out.rd.keep (below_alloc (Below.refl _ _) _))) (wcells_one ws) ?ap3 ?ap4 ?ap5 ?_)
  case ap3 => unfold maxLen; omega
  case ap4 => omega
  case ap5 => simp
  intro v' w1 o1 hg1 _
  have hb1 := own_below (size := 1) (World.ownsRow_made w #[] 0 (Nat.le_refl _) (by decide) (by simp)) hg1 (by simp)
  go_wp2_with fail
  go_returns
  refine ⟨_, rfl, by simpa using o1, ?_⟩
  exact ((Below.refl w.heap.size w).alloc (Nat.le_refl _) _).trans hb1

/-- Words joined up to the k-th. -/
def mixTo (f : Nat → Nat → Nat) (a b : List Nat) (k : Nat) : List Nat := (List.zipWith f a b).take k ++ a.drop k
theorem mixTo_zero (f : Nat → Nat → Nat) (a b : List Nat) : mixTo f a b 0 = a := by simp [mixTo]
theorem mixTo_len (f : Nat → Nat → Nat) (a b : List Nat) (k : Nat) (h : a.length = b.length) (hk : k ≤ a.length) : (mixTo f a b k).length = a.length := by
  simp [mixTo, h]; omega
theorem mixTo_all (f : Nat → Nat → Nat) (a b : List Nat) (h : a.length = b.length) : mixTo f a b a.length = List.zipWith f a b := by
  unfold mixTo
  rw [List.take_of_length_le (by simp; omega), List.drop_of_length_le (Nat.le_refl _), List.append_nil]
theorem mixTo_at (f : Nat → Nat → Nat) (a b : List Nat) (k : Nat) (h : a.length = b.length) (hk : k < a.length) : (mixTo f a b k)[k]? = some a[k] := by
  unfold mixTo
  rw [List.getElem?_append_right (by simp; omega), List.getElem?_drop]
  have e : k + (k - (List.take k (List.zipWith f a b)).length) = k := by simp; omega
  rw [e]; simp [hk]
theorem mixTo_succ (f : Nat → Nat → Nat) (a b : List Nat) (k : Nat) (h : a.length = b.length) (hk : k < a.length) (hkb : k < b.length) :
    (mixTo f a b k).set k (f a[k] b[k]) = mixTo f a b (k + 1) := by
  apply List.ext_getElem?
  intro i
  simp only [mixTo, List.getElem?_set, List.getElem?_append, List.length_append, List.length_take, List.length_zipWith, List.length_drop, List.getElem?_take, List.getElem?_drop, List.getElem?_zipWith]
  have e : min a.length b.length = a.length := by omega
  rw [e, show min k a.length = k by omega, show min (k + 1) a.length = k + 1 by omega]
  by_cases h1 : i = k
  · subst h1; simp [hk, hkb]; omega
  · by_cases h2 : i < k
    · simp [h1, h2, show i < k + 1 by omega, Ne.symm h1]
    · rw [if_neg (Ne.symm h1), if_neg h2, if_neg (by omega)]
      congr 1; omega

/-- A closure that joins two words. -/
def Joins (P : Program) (g : Nat) (f : Nat → Nat → Nat) : Prop :=
  ∀ (x y : Nat) (W : World), x < 18446744073709551616 → y < 18446744073709551616 → Calls P g #[.int .u64 (x : Int), .int .u64 (y : Int)] W fun e w' => e = .returned (.int .u64 ((f x y : Nat) : Int)) ∧ w' = W

theorem sMay_len {n : Int} {ws : List Nat} (h : sChk n ws = 0) : nMay n ∧ ws.length = nWords n ∧ topClear n ws = true := by
  unfold sChk okIf at h
  by_cases hn : nMay n
  · rw [if_pos hn] at h
    by_cases hs : setMay n ws
    · exact ⟨hn, hs.1, hs.2⟩
    · rw [if_neg hs] at h; omega
  · rw [if_neg hn] at h; omega
theorem sChk2_0 {n : Int} {a b : List Nat} (h : sChk2 n a b = 0) : sChk n a = 0 ∧ sChk n b = 0 := by
  unfold sChk2 at h
  by_cases ha : sChk n a = 0
  · rw [if_pos ha] at h; exact ⟨ha, h⟩
  · rw [if_neg ha] at h; exact absurd h ha

set_option maxRecDepth 100000 in set_option maxHeartbeats 4000000 in
theorem set_joined_no (n : Int) (ba bb : Option Addr) (ca cb : Nat) (a b : List Nat) (w : World) (g : Nat) (ha : SetIn w ba a) (hb : SetIn w bb b) (h : ¬ sChk2 n a b = 0) :
    Calls Tryd.prog 58 #[.int .i64 n, .slice ba a.length ca, .slice bb b.length cb, .func (.func g) #[] #[]] w (RUE w [] (sChk2 n a b)) := by
  have hn : (sChk2 n a b == 0) = false := by simpa using h
  have hm : (sChk2 n a b != 0) = true := by simpa using h
  clear h
  have hal : ∀ o, SetIn (w.alloc o) ba a := fun o => ha.keep (below_alloc (Below.refl _ _) _)
  have hbl : ∀ o, SetIn (w.alloc o) bb b := fun o => hb.keep (below_alloc (Below.refl _ _) _)
  have hal := Lib.hid hal
  have hbl := Lib.hid hbl
  go_enter Tryd.func58, Tryd.ntmps58
  go_wp2_with fail
  refine (set_checked n ba bb ca cb a b _ _ (hal.out _) (hbl.out _) (by simp [go_sem]) (by simp [go_sem])).mono ?_
  rintro e w1 ⟨rfl, rfl⟩
  go_wp2_with fail
  go_returns
  exact ⟨_, rfl, World.ownsRow_nil _ _ _ _, by (repeat (first | (with_reducible exact Below.refl _ _) | (with_reducible assumption) | (with_reducible refine below_alloc ?_ _) | (with_reducible refine below_drewN ?_ _) | (with_reducible refine Below.drew ?_) | (with_reducible refine below_then ?_ (by with_reducible assumption)) | (with_reducible refine Below.setCell ?_ (by go_size) _)))⟩

set_option maxRecDepth 100000 in set_option maxHeartbeats 4000000 in
theorem set_joined_ok (n : Int) (ba bb : Option Addr) (ca cb : Nat) (a b : List Nat) (w : World) (g : Nat) (f : Nat → Nat → Nat) (ha : SetIn w ba a) (hb : SetIn w bb b) (h : sChk2 n a b = 0)
    (eg : ∀ args w, (callFunc g args).run Tryd.prog w = .ok (.enter g args) w) (hf : Joins Tryd.prog g f) :
    Calls Tryd.prog 58 #[.int .i64 n, .slice ba a.length ca, .slice bb b.length cb, .func (.func g) #[] #[]] w (RUE w (List.zipWith f a b) 0) := by
  obtain ⟨h1, h2⟩ := sChk2_0 h
  obtain ⟨hn, hla, _⟩ := sMay_len h1
  obtain ⟨_, hlb, _⟩ := sMay_len h2
  have hp := nWords_pos hn
  have hlen := hla.trans hlb.symm
  have hal : ∀ o, SetIn (w.alloc o) ba a := fun o => ha.keep (below_alloc (Below.refl _ _) _)
  have hbl : ∀ o, SetIn (w.alloc o) bb b := fun o => hb.keep (below_alloc (Below.refl _ _) _)
  have hal := Lib.hid hal
  have hbl := Lib.hid hbl
  have HF := Lib.hid hf
  have HA := Lib.hid ha
  have HB := Lib.hid hb
  have HL := Lib.hid hlen
  have hap : 0 < a.length ∧ a.length ≤ 192 := by omega
  have hab1 : b.length ≤ a.length := by omega
  have hab2 : a.length ≤ b.length := by omega
  clear ha hb hf h1 h2 hn hla hlb hp hlen
  go_enter Tryd.func58, Tryd.ntmps58
  go_wp2_with fail
  refine (set_checked n ba bb ca cb a b _ _ (hal.out _) (hbl.out _) (by simp [go_sem]) (by simp [go_sem])).mono ?_
  rintro e w1 ⟨rfl, rfl⟩
  go_wp2_with fail
  refine (set_Clone ba ca a _ (hal.out _) (by omega) hap.1).mono ?_
  rintro e w2 ⟨v, rfl, ho, hb2⟩
  have hB2 : Below w.heap.size w w2 := by (repeat (first | (with_reducible exact Below.refl _ _) | (with_reducible assumption) | (with_reducible refine below_alloc ?_ _) | (with_reducible refine below_drewN ?_ _) | (with_reducible refine Below.drew ?_) | (with_reducible refine below_then ?_ (by with_reducible assumption)) | (with_reducible refine Below.setCell ?_ (by go_size) _)))
  obtain ⟨G, cap, cur, hv, hG, hGG, hcap, hcap2, _⟩ := ho.2.resolve_left (fun h => by omega)
  subst hv
  rw [World.size_alloc] at ho hG
  clear hGG
  have ho' : w2.ownsRow w.heap.size 63 1 (.slice (some ⟨G, 0, none⟩) a.length cap) a.length (wcells (mixTo f a b 0)) := by rw [mixTo_zero]; exact own_mono ho (by omega)
  go_wp2_with fail
  clear ho hb2
  go_loopw [26] (fun i wr => ∃ k : Nat, k ≤ a.length ∧ i = .int .i64 k ∧ wr.ownsRow w.heap.size 63 1 (.slice (some ⟨G, 0, none⟩) a.length cap) a.length (wcells (mixTo f a b k)) ∧ Below w.heap.size w wr) (fun i _ => a.length - (intOf i).toNat)
  case atStart => exact ⟨0, Nat.zero_le _, rfl, ho', hB2⟩
  case round =>
    obtain ⟨k, hk, rfl, hown, hbel⟩ := hrel
    have HO := Lib.hid hown
    clear hown ho' hB2
    by_cases hlt : k < a.length
    · have hltb : k < b.length := by have := HL.out; omega
      have hx : a[k] < 18446744073709551616 := HA.out.fit _ (List.getElem_mem hlt)
      have hy : b[k] < 18446744073709551616 := HB.out.fit _ (List.getElem_mem hltb)
      obtain ⟨bB, off, rfl, hcb⟩ := (HB.out.keep hbel).rd k _ (wcells_at hltb)
      have hca : wr.cell? ⟨G, k, none⟩ = some (.int .u64 (a[k] : Int)) := by
        rw [HO.out.cellAt k (by omega)]
        simp only [wcells, List.getElem?_map, mixTo_at f a b k HL.out hlt]; rfl
      have hfa : wr.frozen? ⟨G, k, none⟩ = false := HO.out.frozenAt k
      have hs := Lib.hid (HO.out.stored k (.int .u64 ((f a[k] b[k] : Nat) : Int)))
      have hm := Lib.hid (mixTo_succ f a b k HL.out hlt hltb)
      have hLL := Lib.hid HL.out
      have hc := Lib.hid (HF.out a[k] b[k] wr hx hy)
      obtain ⟨x, hxx⟩ : ∃ x, x = a[k] := ⟨_, rfl⟩
      obtain ⟨y, hyy⟩ : ∃ y, y = b[k] := ⟨_, rfl⟩
      rw [← hxx, ← hyy] at hs hm hc
      rw [← hxx] at hca hx
      rw [← hyy] at hcb hy
      clear hxx hyy
      go_wp2_with ((with_reducible refine hc.out.mono ?_); rintro e w3 ⟨rfl, rfl⟩)
      have hst : wcells (mixTo f a b (k + 1)) = (wcells (mixTo f a b k)).set k (.int .u64 ((f x y : Nat) : Int)) := by rw [← hm.out]; simp [wcells, List.map_set]
      have hst := Lib.hid hst
      go_roundw
      case rel => exact ⟨k + 1, by omega, by go_num, by rw [hst.out]; exact hs.out.1, hbel.setCell (p := ⟨G, k, none⟩) (show w.heap.size ≤ G by omega) _⟩
      case measure => simp [intOf]; omega
    · obtain rfl : k = a.length := by omega
      have hm := Lib.hid (mixTo_all f a b HL.out)
      have hzl := Lib.hid (show (List.zipWith f a b).length = a.length by have := HL.out; simp; omega)
      go_wp2_with fail
      go_returns
      exact ⟨_, rfl, by rw [hzl.out, ← hm.out]; exact HO.out, hbel⟩

def andW (x y : Nat) : Nat := x &&& y
def orW (x y : Nat) : Nat := x ||| y
def lessW (x y : Nat) : Nat := x &&& (18446744073709551615 - y)

set_option maxRecDepth 100000 in set_option maxHeartbeats 4000000 in
theorem And_joins : Joins Tryd.prog 86 andW := by
  intro x y W hx hy
  have hb := Lib.hid (u64_and_nat x y hx hy)
  go_enter Tryd.func86, Tryd.ntmps86
  go_wp2
  go_returns
  exact ⟨by unfold andW; rw [← hb.out]; rfl, rfl⟩

set_option maxRecDepth 100000 in set_option maxHeartbeats 4000000 in
theorem set_And (n : Int) (ba bb : Option Addr) (ca cb : Nat) (a b : List Nat) (w : World) (ha : SetIn w ba a) (hb : SetIn w bb b) :
    Calls Tryd.prog 60 #[.int .i64 n, .slice ba a.length ca, .slice bb b.length cb] w (RUE w (if sChk2 n a b = 0 then List.zipWith andW a b else []) (sChk2 n a b)) := by
  have eg : ∀ args w, (callFunc 86 args).run Tryd.prog w = .ok (.enter 86 args) w := enters_of Tryd.func86 (by kernel_rfl) rfl
  by_cases h : sChk2 n a b = 0
  · rw [if_pos h, h]
    have HE := Lib.hid eg
    have HH := Lib.hid h
    have HA := Lib.hid ha
    have HB := Lib.hid hb
    clear ha hb h eg
    go_enter Tryd.func60, Tryd.ntmps60
    go_wp2_with fail
    refine (set_joined_ok n ba bb ca cb a b _ _ _ HA.out HB.out HH.out HE.out And_joins).mono ?_
    rintro e w1 ⟨v, rfl, ho, hb1⟩
    go_wp2_with fail
    go_returns
    exact ⟨v, rfl, ho, hb1⟩
  · rw [if_neg h]
    have HH := Lib.hid h
    have HA := Lib.hid ha
    have HB := Lib.hid hb
    clear ha hb h eg
    go_enter Tryd.func60, Tryd.ntmps60
    go_wp2_with fail
    refine (set_joined_no n ba bb ca cb a b _ _ HA.out HB.out HH.out).mono ?_
    rintro e w1 ⟨v, rfl, ho, hb1⟩
    go_wp2_with fail
    go_returns
    exact ⟨v, rfl, ho, hb1⟩

set_option maxRecDepth 100000 in set_option maxHeartbeats 4000000 in
theorem Or_joins : Joins Tryd.prog 59 orW := by
  intro x y W hx hy
  have hb := Lib.hid (u64_or_nat x y hx hy)
  go_enter Tryd.func59, Tryd.ntmps59
  go_wp2
  go_returns
  exact ⟨by unfold orW; rw [← hb.out]; rfl, rfl⟩

set_option maxRecDepth 100000 in set_option maxHeartbeats 4000000 in
theorem set_Or (n : Int) (ba bb : Option Addr) (ca cb : Nat) (a b : List Nat) (w : World) (ha : SetIn w ba a) (hb : SetIn w bb b) :
    Calls Tryd.prog 25 #[.int .i64 n, .slice ba a.length ca, .slice bb b.length cb] w (RUE w (if sChk2 n a b = 0 then List.zipWith orW a b else []) (sChk2 n a b)) := by
  have eg : ∀ args w, (callFunc 59 args).run Tryd.prog w = .ok (.enter 59 args) w := enters_of Tryd.func59 (by kernel_rfl) rfl
  by_cases h : sChk2 n a b = 0
  · rw [if_pos h, h]
    have HE := Lib.hid eg
    have HH := Lib.hid h
    have HA := Lib.hid ha
    have HB := Lib.hid hb
    clear ha hb h eg
    go_enter Tryd.func25, Tryd.ntmps25
    go_wp2_with fail
    refine (set_joined_ok n ba bb ca cb a b _ _ _ HA.out HB.out HH.out HE.out Or_joins).mono ?_
    rintro e w1 ⟨v, rfl, ho, hb1⟩
    go_wp2_with fail
    go_returns
    exact ⟨v, rfl, ho, hb1⟩
  · rw [if_neg h]
    have HH := Lib.hid h
    have HA := Lib.hid ha
    have HB := Lib.hid hb
    clear ha hb h eg
    go_enter Tryd.func25, Tryd.ntmps25
    go_wp2_with fail
    refine (set_joined_no n ba bb ca cb a b _ _ HA.out HB.out HH.out).mono ?_
    rintro e w1 ⟨v, rfl, ho, hb1⟩
    go_wp2_with fail
    go_returns
    exact ⟨v, rfl, ho, hb1⟩

set_option maxRecDepth 100000 in set_option maxHeartbeats 4000000 in
theorem Less_joins : Joins Tryd.prog 64 lessW := by
  intro x y W hx hy
  have hb := Lib.hid (u64_andNot_nat x y hx hy)
  go_enter Tryd.func64, Tryd.ntmps64
  go_wp2
  go_returns
  exact ⟨by unfold lessW; rw [← hb.out]; rfl, rfl⟩

set_option maxRecDepth 100000 in set_option maxHeartbeats 4000000 in
theorem set_Less (n : Int) (ba bb : Option Addr) (ca cb : Nat) (a b : List Nat) (w : World) (ha : SetIn w ba a) (hb : SetIn w bb b) :
    Calls Tryd.prog 29 #[.int .i64 n, .slice ba a.length ca, .slice bb b.length cb] w (RUE w (if sChk2 n a b = 0 then List.zipWith lessW a b else []) (sChk2 n a b)) := by
  have eg : ∀ args w, (callFunc 64 args).run Tryd.prog w = .ok (.enter 64 args) w := enters_of Tryd.func64 (by kernel_rfl) rfl
  by_cases h : sChk2 n a b = 0
  · rw [if_pos h, h]
    have HE := Lib.hid eg
    have HH := Lib.hid h
    have HA := Lib.hid ha
    have HB := Lib.hid hb
    clear ha hb h eg
    go_enter Tryd.func29, Tryd.ntmps29
    go_wp2_with fail
    refine (set_joined_ok n ba bb ca cb a b _ _ _ HA.out HB.out HH.out HE.out Less_joins).mono ?_
    rintro e w1 ⟨v, rfl, ho, hb1⟩
    go_wp2_with fail
    go_returns
    exact ⟨v, rfl, ho, hb1⟩
  · rw [if_neg h]
    have HH := Lib.hid h
    have HA := Lib.hid ha
    have HB := Lib.hid hb
    clear ha hb h eg
    go_enter Tryd.func29, Tryd.ntmps29
    go_wp2_with fail
    refine (set_joined_no n ba bb ca cb a b _ _ HA.out HB.out HH.out).mono ?_
    rintro e w1 ⟨v, rfl, ho, hb1⟩
    go_wp2_with fail
    go_returns
    exact ⟨v, rfl, ho, hb1⟩
end Go.Proofs.YthabpiphfaedaaaDoor
