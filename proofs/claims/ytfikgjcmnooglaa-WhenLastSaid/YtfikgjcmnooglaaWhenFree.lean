/- WHEN: whether midplanes and cables are free through a span from a moment on; the plain law of the least moment. -/
import Derived.Test.YtfikgjcmnooglaaWhenTwo
import Derived.Test.YtfikgjcmnooglaaYardLaw
import Derived.Test.YtfikgjcmnooglaaYardM
namespace Go.Proofs.Ytfikgjcmnooglaa
open Go.RowKit Go.Shelf

def meetS (p : List Sl → Bool) (ns : List (List Sl)) (ms : List Nat) : Bool := anyNZ (joinIf andW ns.length (whS p ns) ms)
theorem meet_mono {p q : List Sl → Bool} {ns : List (List Sl)} {ms : List Nat} (hm : nMay ns.length) (hs : sChk ns.length ms = 0) (fm : W64 ms) (h : ∀ c ∈ ns, p c = true → q c = true) (h0 : meetS q ns ms = false) : meetS p ns ms = false := by
  have hp := and_may (sChk2_of (whS_chk p hm) hs) (whS_f p ns) fm
  have hq := and_may (sChk2_of (whS_chk q hm) hs) (whS_f q ns) fm
  cases he : meetS p ns ms with
  | false => rfl
  | true =>
    obtain ⟨i, hi, ht⟩ := (anyNZ_at (joinIf_fit andW_fit (whS_f p ns) fm)).1 he
    rw [hp.2.2, Bool.and_eq_true, whS_there p hm] at ht
    have h1 : meetS q ns ms = true := (anyNZ_at (joinIf_fit andW_fit (whS_f q ns) fm)).2 ⟨i, by rw [hq.2.1, whS_l]; rw [hp.2.1, whS_l] at hi; exact hi, by
      rw [hq.2.2, whS_there q hm, ht.2, Bool.and_true]
      cases hc : ns[i]? with
      | none => have := ht.1; unfold hasP at this; rw [hc] at this; cases this
      | some c =>
        rw [hasP_some hc]
        exact h c (List.mem_of_getElem? hc) (by have := ht.1; rwa [hasP_some hc] at this)⟩
    rw [h0] at h1
    cases h1
/-- Free of all that is busy through a span. -/
def freeAt (y : Yd) (ms ks : List Nat) (long a : Int) : Bool := !meetS (fun c => !clearB c a (a + long)) y.ns ms && !meetS (fun c => !clearB c a (a + long)) y.ls ks
theorem exists_max : ∀ {l : List Int}, l ≠ [] → ∃ m ∈ l, ∀ x ∈ l, x ≤ m
  | [], h => absurd rfl h
  | [x], _ => ⟨x, List.mem_cons_self .., fun z hz => by simp at hz; omega⟩
  | x :: y :: l, _ => by
    obtain ⟨m, h1, h2⟩ := exists_max (l := y :: l) (by simp)
    by_cases h : x ≤ m
    · exact ⟨m, List.mem_cons_of_mem _ h1, fun z hz => by
        rcases List.mem_cons.1 hz with e | e
        · omega
        · exact h2 z e⟩
    · exact ⟨x, List.mem_cons_self .., fun z hz => by
        rcases List.mem_cons.1 hz with e | e
        · omega
        · have := h2 z e; omega⟩
theorem busyV_go {y : Yd} {f t : Int} (h : y.okB = true) (hs : spMay f t) : busyV y f t = (whS (fun c => !clearB c f t) y.ns, whS (fun c => !clearB c f t) y.ls) ∧ busyE y f t = 0 := by
  have hE : busyE y f t = 0 := by unfold busyE; rw [h, if_pos rfl, okIf_yes hs]
  exact ⟨if_pos hE, hE⟩
theorem clear_move {y : Yd} {fr a long m : Int} (hok : y.okB = true) (h0 : 0 ≤ fr) (h1 : fr ≤ a) (h2 : a < 1099511627776) (hl : 1 ≤ long) (hm : m ≤ a) (hf : fr ≤ m) (hmax : ∀ x ∈ timesV y fr, x ≤ a → x ≤ m)
    (c : List Sl) (hc : calE c = 0) (hin : ∀ s ∈ c, s ∈ y.all) (h : clearB c a (a + long) = true) : clearB c m (m + long) = true := by
  rw [clear_at hc (by omega)] at h ⊢
  intro k hk
  rcases h k hk with h3 | h3
  · left
    by_cases h4 : c[k].t ≤ fr
    · omega
    · refine hmax _ ?_ h3
      unfold timesV
      rw [if_pos (by unfold timesE; rw [hok, if_pos rfl, if_pos ⟨h0, by omega⟩]), mem_pmsL]
      right
      unfold endsL
      refine List.mem_map.2 ⟨c[k], List.mem_filter.2 ⟨hin _ (List.getElem_mem hk), ?_⟩, rfl⟩
      unfold afterB
      simp
      omega
  · right; omega
theorem least_plain {y : Yd} {ms ks : List Nat} {fr a long : Int} (hok : y.okB = true) (h0 : 0 ≤ fr) (h1 : fr ≤ a) (h2 : a < 1099511627776) (hl : 1 ≤ long) (c1 : sChk y.ns.length ms = 0) (c2 : sChk y.ls.length ks = 0) (f1 : W64 ms) (f2 : W64 ks)
    (h : freeAt y ms ks long a = true) : ∃ m ∈ timesV y fr, m ≤ a ∧ freeAt y ms ks long m = true := by
  have hM := Yd.ok_many hok
  have hA := Yd.ok_all hok
  have hT : timesE y fr = 0 := by unfold timesE; rw [hok, if_pos rfl, if_pos ⟨h0, by omega⟩]
  have hmem : fr ∈ timesV y fr := by unfold timesV; rw [if_pos hT, mem_pmsL]; left; simp
  obtain ⟨m, hm, hmax⟩ := exists_max (l := (timesV y fr).filter (fun x => decide (x ≤ a))) (List.ne_nil_of_mem (List.mem_filter.2 ⟨hmem, by simpa using h1⟩))
  have hm1 := (List.mem_filter.1 hm).1
  have hm2 : m ≤ a := by simpa using (List.mem_filter.1 hm).2
  have hf : fr ≤ m := hmax fr (List.mem_filter.2 ⟨hmem, by simpa using h1⟩)
  have hmx : ∀ x ∈ timesV y fr, x ≤ a → x ≤ m := fun x hx hxa => hmax x (List.mem_filter.2 ⟨hx, by simpa using hxa⟩)
  refine ⟨m, hm1, hm2, ?_⟩
  unfold freeAt at h ⊢
  simp only [Bool.and_eq_true, Bool.not_eq_true'] at h ⊢
  refine ⟨meet_mono hM.1 c1 f1 (fun c hc hp => ?_) h.1, meet_mono hM.2 c2 f2 (fun c hc hp => ?_) h.2⟩
  · cases hq : clearB c a (a + long) with
    | false => rfl
    | true => rw [clear_move hok h0 h1 h2 hl hm2 hf hmx c (hA.1 c hc) (fun s hs => List.mem_append.2 (.inl (List.mem_flatten.2 ⟨c, hc, hs⟩))) hq] at hp; cases hp
  · cases hq : clearB c a (a + long) with
    | false => rfl
    | true => rw [clear_move hok h0 h1 h2 hl hm2 hf hmx c (hA.2 c hc) (fun s hs => List.mem_append.2 (.inr (List.mem_flatten.2 ⟨c, hc, hs⟩))) hq] at hp; cases hp
set_option maxRecDepth 100000 in set_option maxHeartbeats 4000000 in
theorem law10_free (y : Yd) (v a b : Value) (ms ks : List Nat) (at' long : Int) (w : World) (h : YS w v y) (ha : SS w a ms) (hb : SS w b ks) (hok : y.okB = true) (c1 : sChk y.ns.length ms = 0) (c2 : sChk y.ls.length ks = 0) (f1 : W64 ms) (f2 : W64 ks)
    (h0 : 0 ≤ at') (hl : 1 ≤ long) (h2 : at' + long ≤ 1099511627776) : Calls Try.prog 74 #[v, a, b, .int .i64 at', .int .i64 long] w (RB w (.bool (freeAt y ms ks long at'))) := by
  have hM := Yd.ok_many hok
  have hL := Yd.ok_len hok
  have hs : spMay at' (at' + long) := ⟨⟨h0, by omega⟩, h2⟩
  have hB := busyV_go hok hs
  have hn9 := h.many.1
  have e1 := sChk2_of (whS_chk (fun c => !clearB c at' (at' + long)) hM.1) c1
  have e2 := sChk2_of (whS_chk (fun c => !clearB c at' (at' + long)) hM.2) c2
  obtain ⟨bn, bl, cn, cl, rfl, h1, h3⟩ := h.ex
  have HBu := Lib.hid (fun W (hb : Below w.heap.size w W) => by have := y_Busy (h.keep hb) at' (at' + long); rw [hB.1, hB.2] at this; exact this)
  have M1 := Lib.hid (fun W u v (h1 : SS W u (whS (fun c => !clearB c at' (at' + long)) y.ns)) (h2 : SS W v ms) => ss_Meet h1 h2 e1)
  have M2 := Lib.hid (fun W u v (h1 : SS W u (whS (fun c => !clearB c at' (at' + long)) y.ls)) (h2 : SS W v ks) => by have := ss_Meet h1 h2 e2; rw [hL] at this; exact this)
  have HA := Lib.hid ha
  have HK := Lib.hid hb
  have HF := Lib.hid (show freeAt y ms ks long at' = (!meetS (fun c => !clearB c at' (at' + long)) y.ns ms && !meetS (fun c => !clearB c at' (at' + long)) y.ls ks) from rfl)
  have HL2 := Lib.hid (show meetS (fun c => !clearB c at' (at' + long)) y.ls ks = anyNZ (joinIf andW (3 * (y.ns.length : Int)) (whS (fun c => !clearB c at' (at' + long)) y.ls) ks) by unfold meetS; rw [hL])
  rw [← HL2.out] at M2
  have HM1 := Lib.hid (show meetS (fun c => !clearB c at' (at' + long)) y.ns ms = anyNZ (joinIf andW y.ns.length (whS (fun c => !clearB c at' (at' + long)) y.ns) ms) from rfl)
  rw [← HM1.out] at M1
  generalize meetS (fun c => !clearB c at' (at' + long)) y.ns ms = x1 at *
  generalize meetS (fun c => !clearB c at' (at' + long)) y.ls ks = x2 at *
  generalize whS (fun c => !clearB c at' (at' + long)) y.ns = s1 at *
  generalize whS (fun c => !clearB c at' (at' + long)) y.ls = s2 at *
  generalize freeAt y ms ks long at' = z at *
  clear h ha hb hok c1 c2 hM hL hs hB e1 e2 h1 h3 HL2 HM1
  have hsum : at' + long ≤ 1099511627776 := h2
  go_enter Try.func74, Try.ntmps74
  go_wp2_with fail
  refine (HBu.out _ (by (repeat (first | (with_reducible exact Below.refl _ _) | (with_reducible assumption) | (with_reducible refine below_alloc ?_ _) | (with_reducible refine below_drewN ?_ _) | (with_reducible refine Below.drew ?_) | (with_reducible refine below_then ?_ (by with_reducible assumption)) | (with_reducible refine Below.setCell ?_ (by go_size) _))))).mono ?_
  rintro e w1 ⟨a1, a2, rfl, A1, A2, hb1⟩
  have YB := Lib.hid (show Blk w1 w.heap.size 42 #[.int .i64 y.d.x, .int .i64 y.d.y, .int .i64 y.d.z, (.slice bn y.ns.length cn), (.slice bl y.ls.length cl)] from (Blk.new ..).below hb1)
  have HB := Lib.hid (below_then (show Below w.heap.size w (w.alloc (.cells #[.int .i64 y.d.x, .int .i64 y.d.y, .int .i64 y.d.z, (.slice bn y.ns.length cn), (.slice bl y.ls.length cl)] 42)) by (repeat (first | (with_reducible exact Below.refl _ _) | (with_reducible assumption) | (with_reducible refine below_alloc ?_ _) | (with_reducible refine below_drewN ?_ _) | (with_reducible refine Below.drew ?_) | (with_reducible refine below_then ?_ (by with_reducible assumption)) | (with_reducible refine Below.setCell ?_ (by go_size) _)))) hb1)
  have A1 := Lib.hid A1
  have A2 := Lib.hid A2
  clear hb1
  have y3 := YB.out.cell 3 _ rfl
  go_wp2_with fail
  refine (M1.out _ _ _ A1.out (HA.out.keep HB.out)).mono ?_
  rintro e w2 ⟨rfl, hb2⟩
  have A2 := Lib.hid (A2.out.keep hb2)
  have HB := Lib.hid (below_then HB.out hb2)
  clear hb2 y3
  go_wp2_with fail
  refine (M2.out _ _ _ A2.out (HK.out.keep HB.out)).mono ?_
  rintro e w3 ⟨rfl, hb3⟩
  have HB := Lib.hid (below_then HB.out hb3)
  clear hb3
  cases x1 with
  | true =>
    go_wp2_with fail
    go_returns
    exact ⟨by rw [HF.out]; rfl, HB.out⟩
  | false =>
    go_wp2_with fail
    go_returns
    exact ⟨by rw [HF.out]; rfl, HB.out⟩
end Go.Proofs.Ytfikgjcmnooglaa
