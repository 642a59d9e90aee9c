/- WhenLast: from the last moment on everything is free, and ahead of it something is not; owners' ends are no later; Times are those of all owners: the call returns true. -/
import Derived.Test.YtfikgjcmnooglaaWhenFree
import Derived.Test.YtfikgjcmnooglaaSetMany
import Derived.Test.YtfikgjcmnooglaaRowYard
import Derived.Deep.CutBlock
import Derived.Deep.DeepCutAuto
namespace Go.Proofs.Ytfikgjcmnooglaa

section
open Go.RowKit Go.Shelf

/-! ### the plain law -/
theorem whS_nums (p : List Sl → Bool) {ns : List (List Sl)} (hm : nMay ns.length) {x : Int} : x ∈ nums (whS p ns) ↔ ∃ k : Nat, x = k ∧ k < 64 * nWords ns.length ∧ hasP p ns k = true := by
  rw [mem_nums, whS_l]
  constructor
  · rintro ⟨k, h1, h2, h3⟩; exact ⟨k, h1, h2, by rwa [whS_there p hm] at h3⟩
  · rintro ⟨k, h1, h2, h3⟩; exact ⟨k, h1, h2, by rwa [whS_there p hm]⟩
theorem many_zero {p : List Sl → Bool} {ns : List (List Sl)} (hm : nMay ns.length) (h : ∀ c ∈ ns, p c = false) : manyV ns.length (whS p ns) = 0 := by
  have : nums (whS p ns) = [] := by
    rw [List.eq_nil_iff_forall_not_mem]
    intro x hx
    obtain ⟨k, _, _, h3⟩ := (whS_nums p hm).1 hx
    unfold hasP at h3
    split at h3
    · next c hc => rw [h c (List.mem_of_getElem? hc)] at h3; cases h3
    · cases h3
  unfold manyV
  rw [if_pos (whS_chk p hm), this]
  rfl
theorem many_pos {p : List Sl → Bool} {ns : List (List Sl)} (hm : nMay ns.length) {c : List Sl} (hc : c ∈ ns) (hp : p c = true) : 0 < manyV ns.length (whS p ns) := by
  obtain ⟨i, hi, rfl⟩ := List.mem_iff_getElem.1 hc
  have hle := nWords_le hm
  have : (i : Int) ∈ nums (whS p ns) := (whS_nums p hm).2 ⟨i, rfl, by omega, by rw [hasP_some (List.getElem?_eq_getElem hi)]; exact hp⟩
  have := List.length_pos_of_mem this
  unfold manyV
  rw [if_pos (whS_chk p hm)]
  omega
theorem many_le (p : List Sl → Bool) {ns : List (List Sl)} (hm : nMay ns.length) : 0 ≤ manyV ns.length (whS p ns) ∧ manyV ns.length (whS p ns) ≤ 100000 := by
  unfold manyV
  rw [if_pos (whS_chk p hm)]
  have h1 := numsTo_len (whS p ns) (64 * (whS p ns).length)
  rw [whS_l] at h1
  have h2 : (nums (whS p ns)).length = (numsTo (whS p ns) (64 * nWords ns.length)).length := by unfold nums; rw [whS_l]
  unfold nMay at hm
  unfold nWords at h1 h2
  omega
theorem lastL_ge {c : List Sl} : ∀ s ∈ c, s.t ≤ lastL c := by
  suffices h : ∀ (c : List Sl) (m : Int), m ≤ c.foldl (fun m s => max m s.t) m ∧ ∀ s ∈ c, s.t ≤ c.foldl (fun m s => max m s.t) m from (h c 0).2
  intro c
  induction c with
  | nil => exact fun m => ⟨Int.le_refl _, fun s h => by cases h⟩
  | cons x c ih =>
    intro m
    obtain ⟨h1, h2⟩ := ih (max m x.t)
    rw [List.foldl_cons]
    refine ⟨by omega, fun s hs => ?_⟩
    rcases List.mem_cons.1 hs with rfl | hs
    · omega
    · exact h2 s hs
theorem lastL_at {c : List Sl} : lastL c = 0 ∨ ∃ s ∈ c, s.t = lastL c := by
  suffices h : ∀ (c : List Sl) (m : Int), c.foldl (fun m s => max m s.t) m = m ∨ ∃ s ∈ c, s.t = c.foldl (fun m s => max m s.t) m from h c 0
  intro c
  induction c with
  | nil => exact fun m => .inl rfl
  | cons x c ih =>
    intro m
    rw [List.foldl_cons]
    rcases ih (max m x.t) with h | ⟨s, hs, h⟩
    · by_cases hx : x.t ≤ m
      · left; omega
      · right; exact ⟨x, List.mem_cons_self .., by omega⟩
    · exact .inr ⟨s, List.mem_cons_of_mem _ hs, h⟩
theorem lastL_pos {c : List Sl} : 0 ≤ lastL c := by
  unfold lastL
  suffices h : ∀ (c : List Sl) (m : Int), 0 ≤ m → 0 ≤ c.foldl (fun m s => max m s.t) m from h c 0 (Int.le_refl _)
  intro c
  induction c with
  | nil => exact fun m h => h
  | cons x c ih => intro m h; rw [List.foldl_cons]; exact ih _ (by omega)
/-- What is known of a machine's last moment, of an owner's ends, of the moments from one on. -/
structure WL (y : Yd) (fr n : Int) (l t : List Int) : Prop where
  n0 : 0 ≤ n
  n1 : n ≤ 1099511627776
  lo : ∀ k (hk : k < l.length), 1 ≤ l[k] ∧ l[k] ≤ n
  up : ∀ k (hk : k + 1 < l.length), l[k] < l[k + 1]
  len : l.length ≤ 100000000 ∧ t.length ≤ 100000000
  pos : 0 < n → 0 < manyV y.ns.length (whS (fun c => !clearB c (n - 1) n) y.ns) + manyV y.ls.length (whS (fun c => !clearB c (n - 1) n) y.ls)
  zero : n < 1099511627776 → manyV y.ns.length (whS (fun c => !clearB c n 1099511627776) y.ns) = 0 ∧ manyV y.ls.length (whS (fun c => !clearB c n 1099511627776) y.ls) = 0
  hd : timesE y fr = 0 → ∃ r, t = fr :: r
  last : timesE y fr = 0 → fr < n → n < 1099511627776 → ∃ h : t.length - 1 < t.length, t[t.length - 1] = n
  mem : timesE y fr = 0 → ∀ k (hk : k < l.length), fr < l[k] → l[k] < 1099511627776 → l[k] ∈ t
theorem wl_of {y : Yd} (hok : y.okB = true) (hal : y.all.length ≤ 20000000) (fr ow : Int) : WL y fr (lastL y.all) (endsV y ow) (timesV y fr) := by
  have hmy := Yd.all_may hok
  have hM := Yd.ok_many hok
  have hA := Yd.ok_all hok
  have hge := lastL_ge (c := y.all)
  have hp := lastL_pos (c := y.all)
  have hat := lastL_at (c := y.all)
  have hmem : ∀ x, x ∈ endsV y ow ↔ ∃ s ∈ y.all, ownerB ow s = true ∧ s.t = x := fun x => by
    unfold endsV
    rw [if_pos hok, mem_pmsL]
    unfold endsL
    simp only [List.not_mem_nil, false_or, List.mem_map, List.mem_filter]
    exact ⟨fun ⟨s, ⟨h1, h2⟩, h3⟩ => ⟨s, h1, h2, h3⟩, fun ⟨s, h1, h2, h3⟩ => ⟨s, ⟨h1, h2⟩, h3⟩⟩
  have htm : timesE y fr = 0 → ∀ x, x ∈ timesV y fr ↔ x = fr ∨ ∃ s ∈ y.all, fr < s.t ∧ s.t < 1099511627776 ∧ s.t = x := fun hE x => by
    unfold timesV
    rw [if_pos hE, mem_pmsL]
    unfold endsL afterB
    simp only [List.mem_singleton, List.mem_map, List.mem_filter, Bool.and_eq_true, decide_eq_true_eq]
    exact ⟨fun h => h.imp id (fun ⟨s, ⟨h1, h2, h3⟩, h4⟩ => ⟨s, h1, h2, h3, h4⟩), fun h => h.imp id (fun ⟨s, h1, h2, h3, h4⟩ => ⟨s, ⟨h1, h2, h3⟩, h4⟩)⟩
  have hn1 : lastL y.all ≤ 1099511627776 := by
    rcases hat with h | ⟨s, hs, h⟩
    · omega
    · have := (hmy s hs).1.2; omega
  have hrise : (endsV y ow).Pairwise (· < ·) := by unfold endsV; rw [if_pos hok]; exact pmsL_rise .nil
  refine ⟨hp, hn1, fun k hk => ?_, fun k hk => ?_, ⟨?_, ?_⟩, fun h0 => ?_, fun h1 => ⟨many_zero hM.1 fun c hc => ?_, many_zero hM.2 fun c hc => ?_⟩, fun hE => ?_, fun hE h1 h2 => ?_, fun hE k hk h1 h2 => ?_⟩
  · obtain ⟨s, hs, _, h⟩ := (hmem _).1 (List.getElem_mem hk)
    have h1 := (hmy s hs).1
    have h2 := hge s hs
    unfold spMay at h1
    omega
  · exact List.pairwise_iff_getElem.1 hrise k (k + 1) (by omega) hk (by omega)
  · unfold endsV
    rw [if_pos hok]
    have h1 := pmsL_len (endsL (ownerB ow) y.all) []
    have h2 := endsL_len (ownerB ow) y.all
    simp at h1
    omega
  · unfold timesV
    split
    · have h1 := pmsL_len (endsL (afterB fr) y.all) [fr]
      have h2 := endsL_len (afterB fr) y.all
      simp at h1
      omega
    · exact Nat.zero_le _
  · rcases hat with h | ⟨s, hs, h⟩
    · omega
    · have g1 := many_le (fun c => !clearB c (lastL y.all - 1) (lastL y.all)) hM.1
      have g2 := many_le (fun c => !clearB c (lastL y.all - 1) (lastL y.all)) hM.2
      have hbz : ∀ c, calE c = 0 → s ∈ c → (!clearB c (lastL y.all - 1) (lastL y.all)) = true := fun c hc hsc => by
        cases hcl : clearB c (lastL y.all - 1) (lastL y.all) with
        | false => rfl
        | true =>
          obtain ⟨k, hk, rfl⟩ := List.mem_iff_getElem.1 hsc
          have := (clear_at hc (by omega)).1 hcl k hk
          have h3 := (hmy _ hs).1
          unfold spMay at h3
          omega
      unfold Yd.all at hs
      rcases List.mem_append.1 hs with hs | hs
      · obtain ⟨c, hc, hsc⟩ := List.mem_flatten.1 hs
        have := many_pos (p := fun c => !clearB c (lastL y.all - 1) (lastL y.all)) hM.1 hc (hbz c (hA.1 c hc) hsc)
        omega
      · obtain ⟨c, hc, hsc⟩ := List.mem_flatten.1 hs
        have := many_pos (p := fun c => !clearB c (lastL y.all - 1) (lastL y.all)) hM.2 hc (hbz c (hA.2 c hc) hsc)
        omega
  · rw [(clear_at (hA.1 c hc) h1).2 fun k hk => .inl (hge _ (List.mem_append.2 (.inl (List.mem_flatten.2 ⟨c, hc, List.getElem_mem hk⟩))))]; rfl
  · rw [(clear_at (hA.2 c hc) h1).2 fun k hk => .inl (hge _ (List.mem_append.2 (.inr (List.mem_flatten.2 ⟨c, hc, List.getElem_mem hk⟩))))]; rfl
  · unfold timesV
    rw [if_pos hE, ← pms_cons ends_after]
    exact ⟨_, rfl⟩
  · have hr : (timesV y fr).Pairwise (· < ·) := by unfold timesV; rw [if_pos hE]; exact pmsL_rise (by simp)
    have hnt : lastL y.all ∈ timesV y fr := by
      rw [htm hE]
      rcases hat with h | ⟨s, hs, h⟩
      · obtain ⟨_, f0, _⟩ : y.okB = true ∧ 0 ≤ fr ∧ fr < 1099511627776 := by
          unfold timesE at hE
          rw [hok, if_pos rfl] at hE
          split at hE
          · next hf => exact ⟨hok, hf⟩
          · omega
        omega
      · exact .inr ⟨s, hs, by omega, by omega, h⟩
    have hpos := List.length_pos_of_mem hnt
    refine ⟨by omega, ?_⟩
    obtain ⟨j, hj, e⟩ := List.mem_iff_getElem.1 hnt
    have hle : (timesV y fr)[(timesV y fr).length - 1]'(by omega) ≤ lastL y.all := by
      rcases (htm hE _).1 (List.getElem_mem (show (timesV y fr).length - 1 < (timesV y fr).length by omega)) with h | ⟨s, hs, _, _, h⟩
      · omega
      · have := hge s hs; omega
    by_cases hjl : j = (timesV y fr).length - 1
    · subst hjl; exact e
    · have := List.pairwise_iff_getElem.1 hr j ((timesV y fr).length - 1) hj (by omega) (by omega)
      omega
  · rw [htm hE]
    obtain ⟨s, hs, _, h⟩ := (hmem _).1 (List.getElem_mem hk)
    exact .inr ⟨s, hs, by omega, by omega, h⟩
/-! ### is a number in a list? -/
set_option maxRecDepth 100000 in set_option maxHeartbeats 4000000 in
theorem law10_has (v : Value) (l : List Int) (x : Int) (w : World) (h : MIn w v l) (hl : l.length ≤ 100000000) : Calls Try.prog 76 #[v, .int .i64 x] w (RB w (.bool (decide (x ∈ l)))) := by
  obtain ⟨lb, lc, rfl, hrd⟩ := h.ex
  have HM := Lib.hid hrd
  clear h hrd
  go_enter Try.func76, Try.ntmps76
  go_wp2_with fail
  go_loopw [5] (fun i wr => ∃ k : Nat, k ≤ l.length ∧ i = .int .i64 k ∧ x ∉ l.take k ∧ wr = w) (fun i _ => l.length - (valNum i).toNat)
  case atStart => exact ⟨0, Nat.zero_le _, rfl, by simp, rfl⟩
  case round =>
    obtain ⟨k, hk, rfl, hno, rfl⟩ := hrel
    have HNo := Lib.hid hno
    clear hno
    by_cases hlt : k < l.length
    · obtain ⟨b, off, rfl, c0, hbl⟩ := mi_at HM.out hlt
      have HIn := Lib.hid (List.getElem_mem hlt)
      have HNx := Lib.hid (fun (z : Int) (hz : z = l[k]) (hn : z ≠ x) => take_no HNo.out hlt hz hn)
      obtain ⟨z, hz⟩ : ∃ z, z = l[k] := ⟨_, rfl⟩
      rw [← hz] at c0 HIn
      have HZ := Lib.hid hz
      clear hz
      by_cases he : z = x
      · have e1 : (z == x) = true := by simpa using he
        have HR := Lib.hid (show decide (x ∈ l) = true from decide_eq_true (he ▸ HIn.out))
        clear he HNx HIn
        go_wp2_with fail
        go_returns
        exact ⟨by rw [HR.out]; rfl, Below.refl _ _⟩
      · have e1 : (z == x) = false := by simpa using he
        have HN2 := Lib.hid (HNx.out z HZ.out he)
        clear he HNx HIn
        go_wp2_with fail
        go_roundw
        case rel => exact ⟨k + 1, by omega, by go_num, HN2.out, by first | rfl | trivial⟩
        case measure => (simp [valNum] <;> omega)
    · obtain rfl : k = l.length := by omega
      have HR := Lib.hid (show decide (x ∈ l) = false from decide_eq_false (by have := HNo.out; rwa [List.take_length] at this))
      go_wp2_with fail
      go_returns
      exact ⟨by rw [HR.out]; rfl, Below.refl _ _⟩
end

section
open Go.ChangeShapes Go.WideShapes Go.ChangeAt Go.RowKit Go.Shelf

set_option maxRecDepth 100000 in set_option maxHeartbeats 4000000 in
theorem last_bad (y : Yd) (bn bl : Option Addr) (cn cl : Nat) (fr ow : Int) (w : World) (hn : CC w bn y.ns) (hl : CC w bl y.ls) (hok : y.okB = false)
    (hG : ∀ W, Below w.heap.size w W → Calls Try.prog 26 #[.agg #[.int .i64 y.d.x, .int .i64 y.d.y, .int .i64 y.d.z, (.slice bn y.ns.length cn), (.slice bl y.ls.length cl)]] W (RB W (.bool false))) :
    Calls Try.prog 18 #[.agg #[.int .i64 y.d.x, .int .i64 y.d.y, .int .i64 y.d.z, (.slice bn y.ns.length cn), (.slice bl y.ls.length cl)], .int .i64 fr, .int .i64 ow] w (RB w (.bool true)) := by
  have hys : YS w (.agg #[.int .i64 y.d.x, .int .i64 y.d.y, .int .i64 y.d.z, (.slice bn y.ns.length cn), (.slice bl y.ls.length cl)]) y := ⟨bn, bl, cn, cl, rfl, hn, hl⟩
  have A1 := Lib.hid (fun W => law10_alive W)
  have G1 := Lib.hid hG
  have hch : y.chk = 8 := (chk_eq y).trans (okIf_no (by rw [hok]; decide))
  have hlv : lastV y = 0 := by unfold lastV; rw [hok]; exact if_neg (by decide)
  have L1 := Lib.hid (fun W (hb : Below w.heap.size w W) => by have hh := when_Last _ y W (hys.keep hb); rw [hch, hlv] at hh; exact hh)
  have E1 := Lib.hid (fun W (hb : Below w.heap.size w W) => by have hh := (when_Ends ow _ y W (hys.keep hb)).mono (fun _ _ hh => hh.me); rw [hch] at hh; exact hh)
  clear hG hys hch hlv hok hn hl
  go_enter Try.func18, Try.ntmps18
  go_wp2_with fail
  refine (A1.out _).mono ?_
  rintro e w1 ⟨rfl, hb⟩
  have YB := Lib.hid (show Blk w1 w.heap.size 42 #[.int .i64 y.d.x, .int .i64 y.d.y, .int .i64 y.d.z, (.slice bn y.ns.length cn), (.slice bl y.ls.length cl)] from (Blk.new w 42 #[.int .i64 y.d.x, .int .i64 y.d.y, .int .i64 y.d.z, (.slice bn y.ns.length cn), (.slice bl y.ls.length cl)]).below hb)
  have HB := Lib.hid (below_then (show Below w.heap.size w (w.alloc (.cells #[.int .i64 y.d.x, .int .i64 y.d.y, .int .i64 y.d.z, (.slice bn y.ns.length cn), (.slice bl y.ls.length cl)] 42)) by (repeat (first | (with_reducible exact Below.refl _ _) | (with_reducible assumption) | (with_reducible refine below_alloc ?_ _) | (with_reducible refine below_drewN ?_ _) | (with_reducible refine Below.drew ?_) | (with_reducible refine below_then ?_ (by with_reducible assumption)) | (with_reducible refine Below.setCell ?_ (by go_size) _)))) hb)
  clear hb A1
  (have y0 := YB.out.cell 0 _ rfl; have y1 := YB.out.cell 1 _ rfl; have y2 := YB.out.cell 2 _ rfl; have y3 := YB.out.cell 3 _ rfl; have y4 := YB.out.cell 4 _ rfl)
  go_wp2_with fail
  refine (G1.out _ HB.out).mono ?_
  rintro e w2 ⟨rfl, hb⟩
  (have YB := Lib.hid (YB.out.below hb); have HB := Lib.hid (below_then HB.out hb); (try have HM := Lib.hid (HM.out.keep hb)); (try have HT := Lib.hid (HT.out.keep hb)))
  clear hb G1
  clear y0 y1 y2 y3 y4
  (have y0 := YB.out.cell 0 _ rfl; have y1 := YB.out.cell 1 _ rfl; have y2 := YB.out.cell 2 _ rfl; have y3 := YB.out.cell 3 _ rfl; have y4 := YB.out.cell 4 _ rfl)
  go_wp2_with fail
  refine (L1.out _ HB.out).mono ?_
  rintro e w3 ⟨rfl, hb⟩
  (have YB := Lib.hid (YB.out.below hb); have HB := Lib.hid (below_then HB.out hb); (try have HM := Lib.hid (HM.out.keep hb)); (try have HT := Lib.hid (HT.out.keep hb)))
  clear hb
  clear y0 y1 y2 y3 y4
  (have y0 := YB.out.cell 0 _ rfl; have y1 := YB.out.cell 1 _ rfl; have y2 := YB.out.cell 2 _ rfl; have y3 := YB.out.cell 3 _ rfl; have y4 := YB.out.cell 4 _ rfl)
  go_wp2_with fail
  refine (E1.out _ HB.out).mono ?_
  rintro e w4 ⟨lv, rfl, _, hb⟩
  (have YB := Lib.hid (YB.out.below hb); have HB := Lib.hid (below_then HB.out hb); (try have HM := Lib.hid (HM.out.keep hb)); (try have HT := Lib.hid (HT.out.keep hb)))
  clear hb
  (go_wp2_with fail; go_returns; exact ⟨rfl, HB.out⟩)
set_option maxRecDepth 100000 in set_option maxHeartbeats 4000000 in
theorem core_WhenLast (y : Yd) (bn bl : Option Addr) (cn cl : Nat) (fr ow : Int) (w : World) (hn : CC w bn y.ns) (hl : CC w bl y.ls) (hok : y.okB = true)
    (hG : ∀ W, Below w.heap.size w W → Calls Try.prog 26 #[.agg #[.int .i64 y.d.x, .int .i64 y.d.y, .int .i64 y.d.z, (.slice bn y.ns.length cn), (.slice bl y.ls.length cl)]] W (RB W (.bool false))) :
    Calls Try.prog 18 #[.agg #[.int .i64 y.d.x, .int .i64 y.d.y, .int .i64 y.d.z, (.slice bn y.ns.length cn), (.slice bl y.ls.length cl)], .int .i64 fr, .int .i64 ow] w (RB w (.bool true)) := by
  have hys : YS w (.agg #[.int .i64 y.d.x, .int .i64 y.d.y, .int .i64 y.d.z, (.slice bn y.ns.length cn), (.slice bl y.ls.length cl)]) y := ⟨bn, bl, cn, cl, rfl, hn, hl⟩
  have A1 := Lib.hid (fun W => law10_alive W)
  have G1 := Lib.hid hG
  have hch : y.chk = 0 := (chk_eq y).trans (okIf_yes hok)
  have hlv : lastV y = lastL y.all := by unfold lastV; rw [hok]; exact if_pos rfl
  have hn9 := hn.many
  have hL := Yd.ok_len hok
  have hM := Yd.ok_many hok
  have WL0 := wl_of hok hys.all_len fr ow
  have L1 := Lib.hid (fun W (hb : Below w.heap.size w W) => by have hh := when_Last _ y W (hys.keep hb); rw [hch, hlv] at hh; exact hh)
  have E1 := Lib.hid (fun W (hb : Below w.heap.size w W) => by have hh := (when_Ends ow _ y W (hys.keep hb)).mono (fun _ _ hh => hh.me); rw [hch] at hh; exact hh)
  have T1 := Lib.hid (fun W (hb : Below w.heap.size w W) => when_Times fr _ y W (hys.keep hb))
  have B1 := Lib.hid (fun W (hb : Below w.heap.size w W) f t (hs : spMay f t) => by have hh := y_Busy (hys.keep hb) f t; rw [(busyV_go hok hs).1, (busyV_go hok hs).2] at hh; exact hh)
  have M1 := Lib.hid (fun W v (p : List Sl → Bool) (h : SS W v (whS p y.ns)) => show Calls Try.prog 75 #[.int .i64 y.ns.length, v] W (RB W (.tuple #[.int .i64 (manyV y.ns.length (whS p y.ns)), .int .i64 0])) by
    obtain ⟨b, c, rfl, h1⟩ := h.ex
    have hh := set_Many y.ns.length b c (whS p y.ns) W h1
    rw [whS_chk p hM.1] at hh
    exact hh)
  have M2 := Lib.hid (fun W v (p : List Sl → Bool) (h : SS W v (whS p y.ls)) => show Calls Try.prog 75 #[.int .i64 (3 * (y.ns.length : Int)), v] W (RB W (.tuple #[.int .i64 (manyV y.ls.length (whS p y.ls)), .int .i64 0])) by
    obtain ⟨b, c, rfl, h1⟩ := h.ex
    have hh := set_Many y.ls.length b c (whS p y.ls) W h1
    rw [whS_chk p hM.2] at hh
    rw [← hL]
    exact hh)
  have ML := Lib.hid (fun (p : List Sl → Bool) => And.intro (many_le p hM.1) (many_le p hM.2))
  generalize timesV y fr = tl at *
  generalize endsV y ow = l at *
  generalize hnv : lastL y.all = n at *
  have HWL := Lib.hid WL0
  have n0 := WL0.n0
  have n1 := WL0.n1
  have hll := WL0.len.1
  have htl := WL0.len.2
  obtain ⟨x1, hx1⟩ : ∃ x1, x1 = timesE y fr := ⟨_, rfl⟩
  have HX1 := Lib.hid hx1
  rw [← hx1] at T1
  clear hG hys hch hlv hok hn hl hL hM WL0 hnv hx1
  go_enter Try.func18, Try.ntmps18
  go_wp2_with fail
  refine (A1.out _).mono ?_
  rintro e w1 ⟨rfl, hb⟩
  have YB := Lib.hid (show Blk w1 w.heap.size 42 #[.int .i64 y.d.x, .int .i64 y.d.y, .int .i64 y.d.z, (.slice bn y.ns.length cn), (.slice bl y.ls.length cl)] from (Blk.new w 42 #[.int .i64 y.d.x, .int .i64 y.d.y, .int .i64 y.d.z, (.slice bn y.ns.length cn), (.slice bl y.ls.length cl)]).below hb)
  have HB := Lib.hid (below_then (show Below w.heap.size w (w.alloc (.cells #[.int .i64 y.d.x, .int .i64 y.d.y, .int .i64 y.d.z, (.slice bn y.ns.length cn), (.slice bl y.ls.length cl)] 42)) by (repeat (first | (with_reducible exact Below.refl _ _) | (with_reducible assumption) | (with_reducible refine below_alloc ?_ _) | (with_reducible refine below_drewN ?_ _) | (with_reducible refine Below.drew ?_) | (with_reducible refine below_then ?_ (by with_reducible assumption)) | (with_reducible refine Below.setCell ?_ (by go_size) _)))) hb)
  clear hb A1
  (have y0 := YB.out.cell 0 _ rfl; have y1 := YB.out.cell 1 _ rfl; have y2 := YB.out.cell 2 _ rfl; have y3 := YB.out.cell 3 _ rfl; have y4 := YB.out.cell 4 _ rfl)
  go_wp2_with fail
  refine (G1.out _ HB.out).mono ?_
  rintro e w2 ⟨rfl, hb⟩
  (have YB := Lib.hid (YB.out.below hb); have HB := Lib.hid (below_then HB.out hb); (try have HM := Lib.hid (HM.out.keep hb)); (try have HT := Lib.hid (HT.out.keep hb)))
  clear hb G1
  clear y0 y1 y2 y3 y4
  (have y0 := YB.out.cell 0 _ rfl; have y1 := YB.out.cell 1 _ rfl; have y2 := YB.out.cell 2 _ rfl; have y3 := YB.out.cell 3 _ rfl; have y4 := YB.out.cell 4 _ rfl)
  go_wp2_with fail
  refine (L1.out _ HB.out).mono ?_
  rintro e w3 ⟨rfl, hb⟩
  (have YB := Lib.hid (YB.out.below hb); have HB := Lib.hid (below_then HB.out hb); (try have HM := Lib.hid (HM.out.keep hb)); (try have HT := Lib.hid (HT.out.keep hb)))
  clear hb L1
  clear y0 y1 y2 y3 y4
  (have y0 := YB.out.cell 0 _ rfl; have y1 := YB.out.cell 1 _ rfl; have y2 := YB.out.cell 2 _ rfl; have y3 := YB.out.cell 3 _ rfl; have y4 := YB.out.cell 4 _ rfl)
  go_wp2_with fail
  refine (E1.out _ HB.out).mono ?_
  rintro e w4 ⟨lv, rfl, hmi, hb⟩
  obtain ⟨lb, lc, rfl, hrd⟩ := hmi.ex
  (have YB := Lib.hid (YB.out.below hb); have HB := Lib.hid (below_then HB.out hb); (try have HM := Lib.hid (HM.out.keep hb)); (try have HT := Lib.hid (HT.out.keep hb)))
  have HM := Lib.hid hrd
  clear hb E1 hrd hmi
  clear y0 y1 y2 y3 y4
  go_wp2_with fail
  go_loopw [12] (fun i wr => ∃ k : Nat, k ≤ l.length ∧ i = .int .i64 k ∧ Below w4.heap.size w4 wr) (fun i _ => l.length - (valNum i).toNat)
  case atStart => exact ⟨0, Nat.zero_le _, rfl, Below.refl _ _⟩
  case round =>
    obtain ⟨k, hk, rfl, hbl⟩ := hrel
    have HBl := Lib.hid hbl
    clear hbl
    by_cases hlt : k < l.length
    · obtain ⟨b, off, rfl, c0, hbl⟩ := mi_at (HM.out.keep HBl.out) hlt
      have hlo := HWL.out.lo k hlt
      obtain ⟨x, hx⟩ : ∃ x, x = l[k] := ⟨_, rfl⟩
      have g1 : decide (n < l[k]) = false := decide_eq_false (by omega)
      have g2 : decide (l[k] < 1) = false := decide_eq_false (by omega)
      by_cases h0 : k = 0
      · subst h0
        rw [Nat.add_zero] at c0
        rw [← hx] at c0 g1 g2 hlo
        clear hx
        go_wp2_with (refine wp_region_quiet_lit (by kernel_rfl) (by kernel_rfl) ?_; (repeat (any_goals (first | go_big_quiet_step (fail) | quiet_step (fail) | (refine wpQuiet_step (fun K hK => ?_); go_simp; split <;> (refine hK _ ?_; clear hK K))))); all_goals (refine wpQuiet_nil ?_; intro _ hw'; obtain ⟨nq, hw''⟩ := hw'; subst hw''))
        all_goals
          go_roundw
          case rel => exact ⟨0 + 1, by omega, by go_num, below_drewN HBl.out _⟩
          case measure => (simp [valNum] <;> omega)
      · have hk0 : decide (0 < k) = true := decide_eq_true (by omega)
        have hk1 : k - 1 < l.length := by omega
        obtain ⟨b', off', e, c1, _⟩ := mi_at (HM.out.keep HBl.out) hk1
        cases e
        have e2 : (k : Int) - 1 = ((k - 1 : Nat) : Int) := by omega
        have hup := HWL.out.up (k - 1) (by omega)
        simp only [show k - 1 + 1 = k by omega] at hup
        obtain ⟨z, hz⟩ : ∃ z, z = l[k - 1] := ⟨_, rfl⟩
        have g3 : decide (l[k] ≤ l[k - 1]) = false := decide_eq_false (by omega)
        rw [← hx] at c0 g1 g2 g3 hlo hup
        rw [← hz] at c1 g3 hup
        clear hx hz
        go_wp2_with (refine wp_region_quiet_lit (by kernel_rfl) (by kernel_rfl) ?_; (repeat (any_goals (first | go_big_quiet_step (fail) | quiet_step (fail) | (refine wpQuiet_step (fun K hK => ?_); go_simp; split <;> (refine hK _ ?_; clear hK K))))); all_goals (refine wpQuiet_nil ?_; intro _ hw'; obtain ⟨nq, hw''⟩ := hw'; subst hw''))
        all_goals
          go_roundw
          case rel => exact ⟨k + 1, by omega, by go_num, below_drewN HBl.out _⟩
          case measure => (simp [valNum] <;> omega)
    · obtain rfl : k = l.length := by omega
      have YB := Lib.hid (YB.out.below HBl.out)
      have HM := Lib.hid (HM.out.keep HBl.out)
      have HB := Lib.hid (below_then HB.out HBl.out)
      go_upto_if 98 with fail
      go_cut [] (fun wx => Below wr.heap.size wr wx)
      case first =>
        by_cases hnp : 0 < n
        · have hpo := Lib.hid (HWL.out.pos hnp)
          have hle := Lib.hid (ML.out (fun c => !clearB c (n - 1) n))
          have BB := Lib.hid (fun W hb => B1.out W hb (n - 1) n ⟨⟨by omega, by omega⟩, n1⟩)
          have MM1 := Lib.hid (fun W v h => M1.out W v (fun c => !clearB c (n - 1) n) h)
          have MM2 := Lib.hid (fun W v h => M2.out W v (fun c => !clearB c (n - 1) n) h)
          generalize manyV y.ns.length (whS (fun c => !clearB c (n - 1) n) y.ns) = p1 at *
          generalize manyV y.ls.length (whS (fun c => !clearB c (n - 1) n) y.ls) = p2 at *
          generalize whS (fun c => !clearB c (n - 1) n) y.ns = s1 at *
          generalize whS (fun c => !clearB c (n - 1) n) y.ls = s2 at *
          obtain ⟨⟨p10, p11⟩, p20, p21⟩ := hle.out
          have e9 : (p1 + p2 == 0) = false := by have := hpo.out; simp; omega
          clear hpo hle
          (have y0 := YB.out.cell 0 _ rfl; have y1 := YB.out.cell 1 _ rfl; have y2 := YB.out.cell 2 _ rfl; have y3 := YB.out.cell 3 _ rfl; have y4 := YB.out.cell 4 _ rfl)
          go_wp2_with fail
          refine (BB.out _ HB.out).mono ?_
          rintro e w5 ⟨a1, a2, rfl, A1, A2, hb⟩
          have HW5 := Lib.hid hb
          (have YB := Lib.hid (YB.out.below hb); have HB := Lib.hid (below_then HB.out hb); (try have HM := Lib.hid (HM.out.keep hb)); (try have HT := Lib.hid (HT.out.keep hb)))
          have A1 := Lib.hid A1
          have A2 := Lib.hid A2
          clear hb BB
          clear y0 y1 y2 y3 y4
          have y3 := YB.out.cell 3 _ rfl
          go_wp2_with fail
          refine (MM1.out _ _ A1.out).mono ?_
          rintro e w6 ⟨rfl, hb⟩
          have HW5 := Lib.hid (below_then HW5.out hb)
          (have YB := Lib.hid (YB.out.below hb); have HB := Lib.hid (below_then HB.out hb); (try have HM := Lib.hid (HM.out.keep hb)); (try have HT := Lib.hid (HT.out.keep hb)))
          have A2 := Lib.hid (A2.out.keep hb)
          clear hb MM1 y3
          have y3 := YB.out.cell 3 _ rfl
          go_wp2_with fail
          refine (MM2.out _ _ A2.out).mono ?_
          rintro e w7 ⟨rfl, hb⟩
          have HW5 := Lib.hid (below_then HW5.out hb)
          clear hb MM2 y3
          go_wp2_with fail
          go_meet
          exact HW5.out
        · go_wp2_with fail
          go_meet
          exact Below.refl _ _
      case rest =>
        have HW := Lib.hid hcut
        have YR := YB
        have BR := HB
        have MR := HM
        (have YB := Lib.hid (YB.out.below hcut); have HB := Lib.hid (below_then HB.out hcut); (try have HM := Lib.hid (HM.out.keep hcut)); (try have HT := Lib.hid (HT.out.keep hcut)))
        clear hcut
        go_upto_if 135 with fail
        go_cut [] (fun wz => Below wr.heap.size wr wz)
        case first =>
          by_cases hnm : n < 1099511627776
          · have d5 : decide (n < 1099511627776) = true := decide_eq_true hnm
            have hze := HWL.out.zero hnm
            have BB := Lib.hid (fun W hb => B1.out W hb n 1099511627776 ⟨⟨n0, hnm⟩, Int.le_refl _⟩)
            have MM1 := Lib.hid (fun W v h => M1.out W v (fun c => !clearB c n 1099511627776) h)
            have MM2 := Lib.hid (fun W v h => M2.out W v (fun c => !clearB c n 1099511627776) h)
            rw [hze.1] at MM1
            rw [hze.2] at MM2
            generalize whS (fun c => !clearB c n 1099511627776) y.ns = s1 at *
            generalize whS (fun c => !clearB c n 1099511627776) y.ls = s2 at *
            clear hze
            (have y0 := YB.out.cell 0 _ rfl; have y1 := YB.out.cell 1 _ rfl; have y2 := YB.out.cell 2 _ rfl; have y3 := YB.out.cell 3 _ rfl; have y4 := YB.out.cell 4 _ rfl)
            go_wp2_with fail
            refine (BB.out _ HB.out).mono ?_
            rintro e w5 ⟨a1, a2, rfl, A1, A2, hb⟩
            have HW5 := Lib.hid hb
            (have YB := Lib.hid (YB.out.below hb); have HB := Lib.hid (below_then HB.out hb); (try have HM := Lib.hid (HM.out.keep hb)); (try have HT := Lib.hid (HT.out.keep hb)))
            have A1 := Lib.hid A1
            have A2 := Lib.hid A2
            clear hb BB
            clear y0 y1 y2 y3 y4
            have y3 := YB.out.cell 3 _ rfl
            go_wp2_with fail
            refine (MM1.out _ _ A1.out).mono ?_
            rintro e w6 ⟨rfl, hb⟩
            have HW5 := Lib.hid (below_then HW5.out hb)
            (have YB := Lib.hid (YB.out.below hb); have HB := Lib.hid (below_then HB.out hb); (try have HM := Lib.hid (HM.out.keep hb)); (try have HT := Lib.hid (HT.out.keep hb)))
            have A2 := Lib.hid (A2.out.keep hb)
            clear hb MM1 y3
            have y3 := YB.out.cell 3 _ rfl
            go_wp2_with fail
            refine (MM2.out _ _ A2.out).mono ?_
            rintro e w7 ⟨rfl, hb⟩
            have HW5 := Lib.hid (below_then HW5.out hb)
            clear hb MM2 y3
            go_wp2_with fail
            go_meet
            exact below_then HW.out HW5.out
          · have d5 : decide (n < 1099511627776) = false := decide_eq_false hnm
            go_wp2_with fail
            go_meet
            exact HW.out
        case rest =>
          have YB := Lib.hid (YR.out.below hcut)
          have HB := Lib.hid (below_then BR.out hcut)
          have HM := Lib.hid (MR.out.keep hcut)
          clear hcut B1 M1 M2 ML YR BR MR HW
          (have y0 := YB.out.cell 0 _ rfl; have y1 := YB.out.cell 1 _ rfl; have y2 := YB.out.cell 2 _ rfl; have y3 := YB.out.cell 3 _ rfl; have y4 := YB.out.cell 4 _ rfl)
          go_wp2_with fail
          refine (T1.out _ HB.out).mono ?_
          rintro e w8 ⟨tv, rfl, hti, hb⟩
          obtain ⟨tb, tc, rfl, htr⟩ := hti.ex
          (have YB := Lib.hid (YB.out.below hb); have HB := Lib.hid (below_then HB.out hb); (try have HM := Lib.hid (HM.out.keep hb)); (try have HT := Lib.hid (HT.out.keep hb)))
          have HT := Lib.hid hti
          have HTr := Lib.hid htr
          clear hb T1 hti htr YB
          clear y0 y1 y2 y3 y4
          by_cases hE : x1 = 0
          · subst hE
            have hEy := Lib.hid HX1.out.symm
            go_wp2_with fail
            go_loopw [29] (fun i wr => ∃ k : Nat, k ≤ l.length ∧ i = .int .i64 k ∧ Below w8.heap.size w8 wr) (fun i _ => l.length - (valNum i).toNat)
            case atStart => exact ⟨0, Nat.zero_le _, rfl, Below.refl _ _⟩
            case round =>
              obtain ⟨k, hk, rfl, hbl⟩ := hrel
              have HBl := Lib.hid hbl
              clear hbl
              by_cases hlt : k < l.length
              · obtain ⟨b, off, rfl, c0, hbl⟩ := mi_at (HM.out.keep HBl.out) hlt
                have HME := Lib.hid (HWL.out.mem hEy.out k hlt)
                obtain ⟨x, hx⟩ : ∃ x, x = l[k] := ⟨_, rfl⟩
                rw [← hx] at c0 HME
                clear hx
                by_cases g1 : fr < x
                · have d1 : decide (fr < x) = true := decide_eq_true g1
                  by_cases g2 : x < 1099511627776
                  · have d2 : decide (x < 1099511627776) = true := decide_eq_true g2
                    have HH := Lib.hid (Calls.rb_eq (law10_has _ tl x _ (HT.out.keep HBl.out) htl) (show Value.bool (decide (x ∈ tl)) = .bool true by rw [decide_eq_true (HME.out g1 g2)]))
                    go_wp2_with fail
                    refine HH.out.mono ?_
                    rintro e w9 ⟨rfl, hb⟩
                    have HB9 := Lib.hid (below_then HBl.out hb)
                    clear hb HH
                    go_wp2_with fail
                    go_roundw
                    case rel => exact ⟨k + 1, by omega, by go_num, HB9.out⟩
                    case measure => (simp [valNum] <;> omega)
                  · have d2 : decide (x < 1099511627776) = false := decide_eq_false g2
                    go_wp2_with fail
                    go_roundw
                    case rel => exact ⟨k + 1, by omega, by go_num, HBl.out⟩
                    case measure => (simp [valNum] <;> omega)
                · have d1 : decide (fr < x) = false := decide_eq_false g1
                  go_wp2_with fail
                  go_roundw
                  case rel => exact ⟨k + 1, by omega, by go_num, HBl.out⟩
                  case measure => (simp [valNum] <;> omega)
              · obtain rfl : k = l.length := by omega
                have HB := Lib.hid (below_then HB.out HBl.out)
                have HT := Lib.hid (HTr.out.keep HBl.out)
                have HLa := Lib.hid (HWL.out.last hEy.out)
                obtain ⟨r, rfl⟩ := HWL.out.hd hEy.out
                obtain ⟨b, off, rfl, c0, hbt⟩ := mi_at HT.out (show 0 < (fr :: r).length by simp)
                rw [Nat.add_zero] at c0
                have c0' : wr.cell? ⟨b, off, none⟩ = some (.int .i64 fr) := c0
                clear c0
                have hlen : (fr :: r).length = r.length + 1 := rfl
                by_cases g1 : n ≤ fr
                · have d1 : decide (n ≤ fr) = true := decide_eq_true g1
                  go_wp2_with fail
                  go_returns
                  exact ⟨by first | rfl | simp, HB.out⟩
                · have d1 : decide (n ≤ fr) = false := decide_eq_false g1
                  by_cases g2 : n = 1099511627776
                  · have e2 : (n == 1099511627776) = true := by simpa using g2
                    go_wp2_with fail
                    go_returns
                    exact ⟨by first | rfl | simp, HB.out⟩
                  · have e2 : (n == 1099511627776) = false := by simpa using g2
                    obtain ⟨hj, hlast⟩ := HLa.out (by omega) (by omega)
                    obtain ⟨b', off', e, c1, _⟩ := mi_at HT.out hj
                    cases e
                    rw [hlast] at c1
                    have c2 : wr.cell? ⟨b, off + r.length, none⟩ = some (.int .i64 n) := c1
                    have hr9 : r.length < (fr :: r).length := by simp
                    have e3 : (((r.length + 1 : Nat) : Int)) - 1 = ((r.length : Nat) : Int) := by omega
                    clear c1 hj hlast
                    go_wp2_with fail
                    go_returns
                    exact ⟨by first | rfl | simp, HB.out⟩
          · have e1 : (x1 == 0) = false := by simpa using hE
            have e2 : (x1 != 0) = true := by simpa using hE
            (go_wp2_with fail; go_returns; exact ⟨rfl, HB.out⟩)
set_option maxRecDepth 100000 in set_option maxHeartbeats 4000000 in
theorem last_great (y : Yd) (bn bl : Option Addr) (cn cl : Nat) (fr ow : Int) (w : World)
    (hG : ∀ W, Below w.heap.size w W → Calls Try.prog 26 #[.agg #[.int .i64 y.d.x, .int .i64 y.d.y, .int .i64 y.d.z, (.slice bn y.ns.length cn), (.slice bl y.ls.length cl)]] W (RB W (.bool true))) :
    Calls Try.prog 18 #[.agg #[.int .i64 y.d.x, .int .i64 y.d.y, .int .i64 y.d.z, (.slice bn y.ns.length cn), (.slice bl y.ls.length cl)], .int .i64 fr, .int .i64 ow] w (RB w (.bool true)) := by
  have A1 := Lib.hid (fun W => law10_alive W)
  have G1 := Lib.hid hG
  clear hG
  go_enter Try.func18, Try.ntmps18
  go_wp2_with fail
  refine (A1.out _).mono ?_
  rintro e w1 ⟨rfl, hb⟩
  have YB := Lib.hid (show Blk w1 w.heap.size 42 #[.int .i64 y.d.x, .int .i64 y.d.y, .int .i64 y.d.z, (.slice bn y.ns.length cn), (.slice bl y.ls.length cl)] from (Blk.new w 42 #[.int .i64 y.d.x, .int .i64 y.d.y, .int .i64 y.d.z, (.slice bn y.ns.length cn), (.slice bl y.ls.length cl)]).below hb)
  have HB := Lib.hid (below_then (show Below w.heap.size w (w.alloc (.cells #[.int .i64 y.d.x, .int .i64 y.d.y, .int .i64 y.d.z, (.slice bn y.ns.length cn), (.slice bl y.ls.length cl)] 42)) by (repeat (first | (with_reducible exact Below.refl _ _) | (with_reducible assumption) | (with_reducible refine below_alloc ?_ _) | (with_reducible refine below_drewN ?_ _) | (with_reducible refine Below.drew ?_) | (with_reducible refine below_then ?_ (by with_reducible assumption)) | (with_reducible refine Below.setCell ?_ (by go_size) _)))) hb)
  clear hb A1
  (have y0 := YB.out.cell 0 _ rfl; have y1 := YB.out.cell 1 _ rfl; have y2 := YB.out.cell 2 _ rfl; have y3 := YB.out.cell 3 _ rfl; have y4 := YB.out.cell 4 _ rfl)
  go_wp2_with fail
  refine (G1.out _ HB.out).mono ?_
  rintro e w2 ⟨rfl, hb⟩
  have HB := Lib.hid (below_then HB.out hb)
  clear hb G1
  (go_wp2_with fail; go_returns; exact ⟨rfl, HB.out⟩)
theorem law10_WhenLast (d : V3) (bn bl : Option Addr) (cn cl : Nat) (ns ls : List (List Sl)) (fr ow : Int) (w : World) (hn : CR w bn ns) (hl : CR w bl ls)
    (hz : (ns.length * 24 ≤ reachBytes ∧ ∀ c ∈ ns, c.length * 24 ≤ reachBytes) ∧ (ls.length * 24 ≤ reachBytes ∧ ∀ c ∈ ls, c.length * 24 ≤ reachBytes)) :
    Calls Try.prog 18 #[.agg #[.int .i64 d.x, .int .i64 d.y, .int .i64 d.z, (.slice bn ns.length cn), (.slice bl ls.length cl)], .int .i64 fr, .int .i64 ow] w (RB w (.bool true)) := by
  have hG := fun W (h : Below w.heap.size w W) => great_reach d bn bl cn cl ns ls W (hn.keep h) (hl.keep h) hz
  cases hg : greatB ns ls with
  | true =>
    rw [hg] at hG
    exact last_great ⟨d, ns, ls⟩ bn bl cn cl fr ow w hG
  | false =>
    rw [hg] at hG
    have hs := great_small hg
    cases hok : Yd.okB ⟨d, ns, ls⟩ with
    | true => exact core_WhenLast ⟨d, ns, ls⟩ bn bl cn cl fr ow w ⟨hn, hs.1.1, hs.1.2⟩ ⟨hl, hs.2.1, hs.2.2⟩ hok hG
    | false => exact last_bad ⟨d, ns, ls⟩ bn bl cn cl fr ow w ⟨hn, hs.1.1, hs.1.2⟩ ⟨hl, hs.2.1, hs.2.2⟩ hok hG

set_option maxRecDepth 100000 in set_option maxHeartbeats 4000000 in
theorem lift_whenLast (os : Os) (started : os.Started) (H : Type) (enc : TypeId × Value → H) :
    ReturnsInHanded {} Try.checked os 18 .any (Rows.whenLastSpec.pre6 enc Try.prog Try.f18 Rows.whenLastRow.domain false) (Rows.whenLastSpec.post enc Try.prog Try.f18 false true false false) := by
  refine returnsInHanded_of_change_sized (C := Try.checked) ownKnob0 started (by kernel_rfl) Try.func18
    (ChangeSpec.witness6 (enc := enc) (C := Try.checked) false ⟨#[], #[.agg #[.int .i64 (⟨0, 0, 0⟩ : V3).x, .int .i64 (⟨0, 0, 0⟩ : V3).y, .int .i64 (⟨0, 0, 0⟩ : V3).z, (.slice none 0 0), (.slice none 0 0)], .int .i64 0, .int .i64 0], []⟩ 8 (by kernel_rfl) (by kernel_rfl) (by kernel_rfl) (by kernel_rfl)) ?_
  intro W base args ds gs before hval0 hW hcnd hwt _
  have hval : ∀ (j : Nat) t v, Try.f18.params[j]? = some t → args[j]? = some v → Value.okWide Try.prog W .any base t v := hval0
  have hW' := hW
  obtain ⟨p, q, hA0, hV, rfl, hfz, hnd⟩ := hW
  have hA : DataW.TrodAll enc Try.prog W 0 (fun _ => true) true Try.f18.params.toList args.toList ds p := hA0
  rw [Try.params18] at hA hval hwt
  have hK := hA
  obtain ⟨v0, vs0, d0, ds0, p0, q0, hargs, rfl, rfl, h0, r0⟩ := trodAll_cons hA
  obtain ⟨v1, vs1, d1, ds1, p1, q1, rfl, rfl, rfl, h1, r1⟩ := trodAll_cons r0
  obtain ⟨v2, vs2, d2, ds2, p2, q2, rfl, rfl, rfl, h2, r2⟩ := trodAll_cons r1
  obtain ⟨rfl, rfl, rfl⟩ := trodAll_nil r2
  obtain rfl : args = #[v0, v1, v2] := by cases args; simp_all
  obtain ⟨d, bn, bl, ns, ls, cn, cl, rfl, hn, hl, hz⟩ := open_yard (hval 0 _ v0 rfl rfl) h0
  obtain ⟨fr, rfl⟩ := okWide_int Try.underlying3 (hval 1 _ v1 rfl rfl)
  obtain ⟨ow, rfl⟩ := okWide_int Try.underlying3 (hval 2 _ v2 rfl rfl)
  have hz' := hz reachBytes (fun k hk => by have := List.all_eq_true.1 hwt k (DataW.weights_mem_each (j := 0) rfl rfl k hk); simpa using this)
  obtain ⟨rfl, rfl⟩ := trodVars_none hV
  clear hA0 hval0
  simp only [List.append_nil] at hW' hK
  refine (law10_WhenLast d bn bl cn cl ns ls fr ow W hn hl hz').mono fun e W' ⟨he, bel⟩ => ?_
  subst he
  refine ⟨_, rfl, _, _, _, [], _, [], hW', trodAll_mk1 (shut_bool Try.underlying4 _), trodAll_below bel _ _ _ _ ?_ hK, rfl, bel.frame _, fun h => by cases h⟩
  intro t ht
  simp at ht <;> (rcases ht with rfl | rfl | rfl <;> exact ⟨by kernel_rfl, of_decide_eq_true (by kernel_rfl)⟩)

theorem holds_whenLast : Rows.whenLastRow.holds Try.pinned (OpenSpec.ofChange Rows.whenLastSpec) :=
  OpenClaim.holds_of_wide 18 Try.f18 rfl rfl rfl rfl rfl rfl rfl ⟨rfl, rfl, rfl, rfl, rfl⟩ rfl rfl rfl rfl rfl (by kernel_rfl) Try.func18 (by kernel_rfl)
    (of_decide_eq_true (by kernel_rfl)) (by unfold Func.isWrapper; first | (rw [if_pos (by decide +kernel)]; kernel_rfl) | (rw [if_neg (by decide +kernel)]; exact ⟨rfl, rfl⟩))
    (fun os started H enc _ => lift_whenLast os started H enc)

theorem WhenLast_holds : Rows.WhenLastSaid := holds_whenLast
end
end Go.Proofs.Ytfikgjcmnooglaa
