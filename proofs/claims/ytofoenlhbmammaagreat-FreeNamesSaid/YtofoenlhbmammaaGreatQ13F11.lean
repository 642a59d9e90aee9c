/- WHEN: whether midplanes and cables are free through a span from a moment on; the plain law of the least moment. -/
import Derived.Test.YtofoenlhbmammaaGreatQ6F11
import Derived.Test.YtofoenlhbmammaaGreatQ0YardIF11
import Derived.Test.YtofoenlhbmammaaGreatQ12F11
import Derived.Test.YtofoenlhbmammaaGreatQ0WhenCodeF11
set_option linter.unusedVariables false
set_option linter.unusedSimpArgs false
namespace Go.Proofs.YtofoenlhbmammaaGreat

section
open Go.RowKit Go.Shelf

def hasP (p : List Sl → Bool) (ns : List (List Sl)) (i : Nat) : Bool := match ns[i]? with | some c => p c | none => false
theorem hasP_some {p : List Sl → Bool} {ns : List (List Sl)} {i : Nat} {c : List Sl} (h : ns[i]? = some c) : hasP p ns i = p c := by unfold hasP; rw [h]
theorem whS_there (p : List Sl → Bool) {ns : List (List Sl)} (hm : nMay ns.length) (i : Nat) : there (whS p ns) i = hasP p ns i := by
  have hle := nWords_le hm
  unfold whS
  rw [there_bitsOf (fun x hx => by obtain ⟨j, c, h1, h2, _⟩ := whTo_mem.1 hx; omega), Bool.eq_iff_iff, decide_eq_true_iff, whTo_mem]
  constructor
  · rintro ⟨j, c, h1, h2, h3, h4⟩
    obtain rfl : i = j := by omega
    rw [hasP_some h3]
    exact h4
  · intro h
    cases hc : ns[i]? with
    | none => unfold hasP at h; rw [hc] at h; cases h
    | some c =>
      rw [hasP_some hc] at h
      exact ⟨i, c, (List.getElem?_eq_some_iff.1 hc).1, rfl, hc, h⟩
theorem whS_l (p : List Sl → Bool) (ns : List (List Sl)) : (whS p ns).length = nWords ns.length := bitsOf_len _ _
theorem whS_f (p : List Sl → Bool) (ns : List (List Sl)) : W64 (whS p ns) := bitsOf_fit _ _
theorem whS_chk (p : List Sl → Bool) {ns : List (List Sl)} (hm : nMay ns.length) : sChk ns.length (whS p ns) = 0 := by
  refine sChk_of hm (whS_l p ns) (whS_f p ns) fun i hi => ?_
  rw [whS_there p hm]
  unfold hasP
  rw [List.getElem?_eq_none (by omega)]
theorem whS_chk2 (p q : List Sl → Bool) {ns : List (List Sl)} (hm : nMay ns.length) : sChk2 ns.length (whS p ns) (whS q ns) = 0 := sChk2_of (whS_chk p hm) (whS_chk q hm)
theorem anyNZ_no {ws : List Nat} (hw : W64 ws) (h : ∀ i, there ws i = false) : anyNZ ws = false := by
  cases he : anyNZ ws with
  | false => rfl
  | true =>
    obtain ⟨i, _, h2⟩ := (anyNZ_at hw).1 he
    rw [h i] at h2
    cases h2
theorem whS_in {p q : List Sl → Bool} {ns : List (List Sl)} (hm : nMay ns.length) (h : ∀ c ∈ ns, p c = true → q c = true) : anyNZ (joinIf lessW ns.length (whS p ns) (whS q ns)) = false := by
  have h2 := less_may (whS_chk2 p q hm) (whS_f p ns) (whS_f q ns)
  refine anyNZ_no (joinIf_fit lessW_fit (whS_f p ns) (whS_f q ns)) fun i => ?_
  rw [h2.2.2, whS_there p hm, whS_there q hm]
  cases hc : ns[i]? with
  | none => unfold hasP; rw [hc]; rfl
  | some c =>
    rw [hasP_some hc, hasP_some hc]
    have := h c (List.mem_of_getElem? hc)
    cases hp : p c with
    | false => rfl
    | true => rw [this hp]; rfl
theorem whS_apart {p q : List Sl → Bool} {ns : List (List Sl)} (hm : nMay ns.length) (h : ∀ c ∈ ns, p c = true → q c = false) : anyNZ (joinIf andW ns.length (whS p ns) (whS q ns)) = false := by
  have h2 := and_may (whS_chk2 p q hm) (whS_f p ns) (whS_f q ns)
  refine anyNZ_no (joinIf_fit andW_fit (whS_f p ns) (whS_f q ns)) fun i => ?_
  rw [h2.2.2, whS_there p hm, whS_there q hm]
  cases hc : ns[i]? with
  | none => unfold hasP; rw [hc]; rfl
  | some c =>
    rw [hasP_some hc, hasP_some hc]
    have := h c (List.mem_of_getElem? hc)
    cases hp : p c with
    | false => rfl
    | true => rw [this hp]; rfl
theorem whS_or {p q r : List Sl → Bool} {ns : List (List Sl)} (hm : nMay ns.length) (h : ∀ c ∈ ns, r c = (p c || q c)) : joinIf orW ns.length (whS p ns) (whS q ns) = whS r ns := by
  have h2 := or_may (whS_chk2 p q hm) (whS_f p ns) (whS_f q ns)
  refine sets_ext (by rw [h2.2.1, whS_l, whS_l]) (joinIf_fit orW_fit (whS_f p ns) (whS_f q ns)) (whS_f r ns) fun i _ => ?_
  rw [h2.2.2, whS_there p hm, whS_there q hm, whS_there r hm]
  cases hc : ns[i]? with
  | none => unfold hasP; rw [hc]; rfl
  | some c => rw [hasP_some hc, hasP_some hc, hasP_some hc, h c (List.mem_of_getElem? hc)]
/-! ### spans -/
theorem clear_at {c : List Sl} (hc : calE c = 0) {f t : Int} (h : f < t) : clearB c f t = true ↔ ∀ k (hk : k < c.length), c[k].t ≤ f ∨ t ≤ c[k].f := by
  rw [clearB_iff]
  constructor
  · intro hh k hk
    exact (meetsB_no (chain_may (calE_ok hc).1 hk).1.1.2 h).1 (hh k hk)
  · intro hh k hk
    exact (meetsB_no (chain_may (calE_ok hc).1 hk).1.1.2 h).2 (hh k hk)
theorem busy_in {c : List Sl} (hc : calE c = 0) {f t g u : Int} (h1 : f < t) (h2 : g < u) (hg : g ≤ f) (hu : t ≤ u) (h : (!clearB c f t) = true) : (!clearB c g u) = true := by
  cases hq : clearB c g u with
  | false => rfl
  | true =>
    have h3 := (clear_at hc h2).1 hq
    have h4 : clearB c f t = true := (clear_at hc h1).2 fun k hk => by have := h3 k hk; omega
    rw [h4] at h
    cases h
theorem busy_or {c : List Sl} (hc : calE c = 0) {f m t : Int} (h1 : f < m) (h2 : m < t) : (!clearB c f t) = ((!clearB c f m) || (!clearB c m t)) := by
  rw [← Bool.not_and]
  congr 1
  rw [Bool.eq_iff_iff, Bool.and_eq_true, clear_at hc (by omega), clear_at hc h1, clear_at hc h2]
  constructor
  · intro h
    exact ⟨fun k hk => by have := h k hk; omega, fun k hk => by have := h k hk; omega⟩
  · rintro ⟨h3, h4⟩ k hk
    have q1 := h3 k hk
    have q2 := h4 k hk
    have q3 := (chain_may (calE_ok hc).1 hk).1.1.2
    omega
end

section
open Go.RowKit Go.Shelf

section
variable {W : World} {u v : Value} {a b : List Nat} (hu : SS W u a) (hv : SS W v b) {n : Int} (h : sChk2 n a b = 0)
include hu hv h
theorem ss_Or : Calls Tryz.prog 22 #[.int .i64 n, u, v] W (fun e W' => ∃ x, e = .returned (.tuple #[x, .int .i64 0]) ∧ SS W' x (joinIf orW n a b) ∧ Below W.heap.size W W') := by
  obtain ⟨b1, c1, rfl, h1⟩ := hu.ex
  obtain ⟨b2, c2, rfl, h2⟩ := hv.ex
  have := set_Or n b1 b2 c1 c2 a b W h1 h2
  rw [h, if_pos rfl] at this
  have hj : joinIf orW n a b = List.zipWith orW a b := if_pos h
  have hlen : (joinIf orW n a b).length ≤ 4611686018427387904 := Nat.le_trans joinIf_len h1.len
  have hfit := joinIf_fit (n := n) orW_fit h1.fit h2.fit
  refine this.mono ?_
  rintro e W' ⟨x, rfl, hx, hb⟩
  rw [← hj] at hx
  exact ⟨x, rfl, SS.of hx hlen hfit, hb⟩
end
/-- Calendars and two spans, in their boxes. -/
structure BFr (w W : World) (d : V3) (bn bl : Option Addr) (cn cl : Nat) (ns ls : List (List Sl)) (f t g u : Int) : Prop where
  y : Blk W w.heap.size 26 #[.int .i64 d.x, .int .i64 d.y, .int .i64 d.z, (.slice bn ns.length cn), (.slice bl ls.length cl)]
  s : Blk W (w.heap.size + 1) 35 #[.int .i64 f, .int .i64 t]
  t : Blk W (w.heap.size + 1 + 1) 35 #[.int .i64 g, .int .i64 u]
  hn : CR W bn ns
  hl : CR W bl ls
  b : Below w.heap.size w W
theorem BFr.keep {w W W' : World} {d : V3} {bn bl : Option Addr} {cn cl : Nat} {ns ls : List (List Sl)} {f t g u : Int} (h : BFr w W d bn bl cn cl ns ls f t g u) (hb : Below W.heap.size W W') : BFr w W' d bn bl cn cl ns ls f t g u :=
  ⟨h.y.below hb, h.s.below hb, h.t.below hb, h.hn.keep hb, h.hl.keep hb, below_then h.b hb⟩
theorem BFr.new (w : World) (d : V3) (bn bl : Option Addr) (cn cl : Nat) (ns ls : List (List Sl)) (f t g u : Int) (hn : CR w bn ns) (hl : CR w bl ls) :
    BFr w (((w.alloc (.cells #[.int .i64 d.x, .int .i64 d.y, .int .i64 d.z, (.slice bn ns.length cn), (.slice bl ls.length cl)] 26)).alloc (.cells #[.int .i64 f, .int .i64 t] 35)).alloc (.cells #[.int .i64 g, .int .i64 u] 35)) d bn bl cn cl ns ls f t g u := by
  have hb : Below w.heap.size w (((w.alloc (.cells #[.int .i64 d.x, .int .i64 d.y, .int .i64 d.z, (.slice bn ns.length cn), (.slice bl ls.length cl)] 26)).alloc (.cells #[.int .i64 f, .int .i64 t] 35)).alloc (.cells #[.int .i64 g, .int .i64 u] 35)) := by (repeat (first | (with_reducible exact Below.refl _ _) | (with_reducible assumption) | (with_reducible refine below_alloc ?_ _) | (with_reducible refine below_drewN ?_ _) | (with_reducible refine Below.drew ?_) | (with_reducible refine below_then ?_ (by with_reducible assumption)) | (with_reducible refine Below.setCell ?_ (by go_size) _)))
  have e1 : w.heap.size + 1 = (w.alloc (.cells #[.int .i64 d.x, .int .i64 d.y, .int .i64 d.z, (.slice bn ns.length cn), (.slice bl ls.length cl)] 26)).heap.size := by simp
  have e2 : w.heap.size + 1 + 1 = ((w.alloc (.cells #[.int .i64 d.x, .int .i64 d.y, .int .i64 d.z, (.slice bn ns.length cn), (.slice bl ls.length cl)] 26)).alloc (.cells #[.int .i64 f, .int .i64 t] 35)).heap.size := by simp
  refine ⟨((Blk.new ..).alloc _).alloc _, ?_, ?_, hn.keep hb, hl.keep hb, hb⟩
  · rw [e1]; exact (Blk.new ..).alloc _
  · rw [e2]; exact Blk.new ..
theorem great_small {ns ls : List (List Sl)} (hg : greatB ns ls = false) : (ns.length ≤ 1000 ∧ ∀ c ∈ ns, c.length ≤ 10000) ∧ (ls.length ≤ 1000 ∧ ∀ c ∈ ls, c.length ≤ 10000) := by
  obtain ⟨h1, h2, h3⟩ := great_no hg
  exact ⟨⟨by omega, h1.2⟩, ⟨by omega, h2.2⟩⟩
theorem BFr.ys {w W : World} {d : V3} {bn bl : Option Addr} {cn cl : Nat} {ns ls : List (List Sl)} {f t g u : Int} (h : BFr w W d bn bl cn cl ns ls f t g u) (hs : (ns.length ≤ 1000 ∧ ∀ c ∈ ns, c.length ≤ 10000) ∧ (ls.length ≤ 1000 ∧ ∀ c ∈ ls, c.length ≤ 10000)) :
    YS W (.agg #[.int .i64 d.x, .int .i64 d.y, .int .i64 d.z, (.slice bn ns.length cn), (.slice bl ls.length cl)]) ⟨d, ns, ls⟩ := ⟨bn, bl, cn, cl, rfl, ⟨h.hn, hs.1.1, hs.1.2⟩, ⟨h.hl, hs.2.1, hs.2.2⟩⟩
theorem busyE_0 {y : Yd} {f t : Int} (h : busyE y f t = 0) : y.okB = true ∧ spMay f t := by
  unfold busyE at h
  cases hok : y.okB with
  | false => rw [hok] at h; cases h
  | true =>
    rw [hok, if_pos rfl] at h
    refine ⟨rfl, ?_⟩
    by_cases hs : spMay f t
    · exact hs
    · rw [okIf_no hs] at h; cases h
end

section
open Go.RowKit Go.Shelf

theorem take_same {α : Type} {a b : List α} {k : Nat} (ha : k < a.length) (hb : k < b.length) (he : a.take k = b.take k) : a.take (k + 1) = b.take (k + 1) ↔ a[k] = b[k] := by
  rw [List.take_succ_eq_append_getElem ha, List.take_succ_eq_append_getElem hb, he]
  simp only [List.append_cancel_left_eq, List.cons.injEq, and_true]
end

section
open Go.RowKit Go.Shelf

theorem mi_two {W : World} {B : Nat} {f g : Int} {t : TypeId} (h : Blk W B t #[.int .i64 f, .int .i64 g]) (cap : Nat) : MIn W (.slice (some ⟨B, 0, none⟩) 2 cap) [f, g] :=
  ⟨some ⟨B, 0, none⟩, cap, rfl, fun i v hi => by
    match i, hi with
    | 0, hi => exact ⟨B, 0, rfl, by cases hi; exact h.cell 0 _ rfl⟩
    | 1, hi => exact ⟨B, 0, rfl, by cases hi; exact h.cell 1 _ rfl⟩
    | i + 2, hi => simp [wi] at hi⟩
theorem ex_t0 : timesV twoY 0 = [0, 3] ∧ timesE twoY 0 = 0 := ⟨by kernel_rfl, by kernel_rfl⟩
theorem ex_t3 : timesV twoY 3 = [3] ∧ timesE twoY 3 = 0 := ⟨by kernel_rfl, by kernel_rfl⟩
theorem ex_t40 : timesV twoY 1099511627776 = [] ∧ timesE twoY 1099511627776 = 2 := ⟨by kernel_rfl, by kernel_rfl⟩
theorem ex_e5 : endsV twoY 5 = [3] := by kernel_rfl
theorem ex_e6 : endsV twoY 6 = [] := by kernel_rfl
theorem ex_chk : twoY.chk = 0 := by kernel_rfl
theorem ex_last : lastV twoY = 3 := by kernel_rfl
end

section
open Go.RowKit Go.Shelf

def meetS (p : List Sl → Bool) (ns : List (List Sl)) (ms : List Nat) : Bool := anyNZ (joinIf andW ns.length (whS p ns) ms)
theorem meet_mono {p q : List Sl → Bool} {ns : List (List Sl)} {ms : List Nat} (hm : nMay ns.length) (hs : sChk ns.length ms = 0) (fm : W64 ms) (h : ∀ c ∈ ns, p c = true → q c = true) (h0 : meetS q ns ms = false) : meetS p ns ms = false := by
  have hp := and_may (sChk2_of (whS_chk p hm) hs) (whS_f p ns) fm
  have hq := and_may (sChk2_of (whS_chk q hm) hs) (whS_f q ns) fm
  cases he : meetS p ns ms with
  | false => rfl
  | true =>
    obtain ⟨i, hi, ht⟩ := (anyNZ_at (joinIf_fit andW_fit (whS_f p ns) fm)).1 he
    rw [hp.2.2, Bool.and_eq_true, whS_there p hm] at ht
    have h1 : meetS q ns ms = true := (anyNZ_at (joinIf_fit andW_fit (whS_f q ns) fm)).2 ⟨i, by rw [hq.2.1, whS_l]; rw [hp.2.1, whS_l] at hi; exact hi, by
      rw [hq.2.2, whS_there q hm, ht.2, Bool.and_true]
      cases hc : ns[i]? with
      | none => have := ht.1; unfold hasP at this; rw [hc] at this; cases this
      | some c =>
        rw [hasP_some hc]
        exact h c (List.mem_of_getElem? hc) (by have := ht.1; rwa [hasP_some hc] at this)⟩
    rw [h0] at h1
    cases h1
/-- Free of all that is busy through a span. -/
def freeAt (y : Yd) (ms ks : List Nat) (long a : Int) : Bool := !meetS (fun c => !clearB c a (a + long)) y.ns ms && !meetS (fun c => !clearB c a (a + long)) y.ls ks
theorem exists_max : ∀ {l : List Int}, l ≠ [] → ∃ m ∈ l, ∀ x ∈ l, x ≤ m
  | [], h => absurd rfl h
  | [x], _ => ⟨x, List.mem_cons_self .., fun z hz => by simp at hz; omega⟩
  | x :: y :: l, _ => by
    obtain ⟨m, h1, h2⟩ := exists_max (l := y :: l) (by simp)
    by_cases h : x ≤ m
    · exact ⟨m, List.mem_cons_of_mem _ h1, fun z hz => by
        rcases List.mem_cons.1 hz with e | e
        · omega
        · exact h2 z e⟩
    · exact ⟨x, List.mem_cons_self .., fun z hz => by
        rcases List.mem_cons.1 hz with e | e
        · omega
        · have := h2 z e; omega⟩
theorem busyV_go {y : Yd} {f t : Int} (h : y.okB = true) (hs : spMay f t) : busyV y f t = (whS (fun c => !clearB c f t) y.ns, whS (fun c => !clearB c f t) y.ls) ∧ busyE y f t = 0 := by
  have hE : busyE y f t = 0 := by unfold busyE; rw [h, if_pos rfl, okIf_yes hs]
  exact ⟨if_pos hE, hE⟩
theorem clear_move {y : Yd} {fr a long m : Int} (hok : y.okB = true) (h0 : 0 ≤ fr) (h1 : fr ≤ a) (h2 : a < 1099511627776) (hl : 1 ≤ long) (hm : m ≤ a) (hf : fr ≤ m) (hmax : ∀ x ∈ timesV y fr, x ≤ a → x ≤ m)
    (c : List Sl) (hc : calE c = 0) (hin : ∀ s ∈ c, s ∈ y.all) (h : clearB c a (a + long) = true) : clearB c m (m + long) = true := by
  rw [clear_at hc (by omega)] at h ⊢
  intro k hk
  rcases h k hk with h3 | h3
  · left
    by_cases h4 : c[k].t ≤ fr
    · omega
    · refine hmax _ ?_ h3
      unfold timesV
      rw [if_pos (by unfold timesE; rw [hok, if_pos rfl, if_pos ⟨h0, by omega⟩]), mem_pmsL]
      right
      unfold endsL
      refine List.mem_map.2 ⟨c[k], List.mem_filter.2 ⟨hin _ (List.getElem_mem hk), ?_⟩, rfl⟩
      unfold afterB
      simp
      omega
  · right; omega
theorem least_plain {y : Yd} {ms ks : List Nat} {fr a long : Int} (hok : y.okB = true) (h0 : 0 ≤ fr) (h1 : fr ≤ a) (h2 : a < 1099511627776) (hl : 1 ≤ long) (c1 : sChk y.ns.length ms = 0) (c2 : sChk y.ls.length ks = 0) (f1 : W64 ms) (f2 : W64 ks)
    (h : freeAt y ms ks long a = true) : ∃ m ∈ timesV y fr, m ≤ a ∧ freeAt y ms ks long m = true := by
  have hM := Yd.ok_many hok
  have hA := Yd.ok_all hok
  have hT : timesE y fr = 0 := by unfold timesE; rw [hok, if_pos rfl, if_pos ⟨h0, by omega⟩]
  have hmem : fr ∈ timesV y fr := by unfold timesV; rw [if_pos hT, mem_pmsL]; left; simp
  obtain ⟨m, hm, hmax⟩ := exists_max (l := (timesV y fr).filter (fun x => decide (x ≤ a))) (List.ne_nil_of_mem (List.mem_filter.2 ⟨hmem, by simpa using h1⟩))
  have hm1 := (List.mem_filter.1 hm).1
  have hm2 : m ≤ a := by simpa using (List.mem_filter.1 hm).2
  have hf : fr ≤ m := hmax fr (List.mem_filter.2 ⟨hmem, by simpa using h1⟩)
  have hmx : ∀ x ∈ timesV y fr, x ≤ a → x ≤ m := fun x hx hxa => hmax x (List.mem_filter.2 ⟨hx, by simpa using hxa⟩)
  refine ⟨m, hm1, hm2, ?_⟩
  unfold freeAt at h ⊢
  simp only [Bool.and_eq_true, Bool.not_eq_true'] at h ⊢
  refine ⟨meet_mono hM.1 c1 f1 (fun c hc hp => ?_) h.1, meet_mono hM.2 c2 f2 (fun c hc hp => ?_) h.2⟩
  · cases hq : clearB c a (a + long) with
    | false => rfl
    | true => rw [clear_move hok h0 h1 h2 hl hm2 hf hmx c (hA.1 c hc) (fun s hs => List.mem_append.2 (.inl (List.mem_flatten.2 ⟨c, hc, hs⟩))) hq] at hp; cases hp
  · cases hq : clearB c a (a + long) with
    | false => rfl
    | true => rw [clear_move hok h0 h1 h2 hl hm2 hf hmx c (hA.2 c hc) (fun s hs => List.mem_append.2 (.inr (List.mem_flatten.2 ⟨c, hc, hs⟩))) hq] at hp; cases hp
end
end Go.Proofs.YtofoenlhbmammaaGreat
