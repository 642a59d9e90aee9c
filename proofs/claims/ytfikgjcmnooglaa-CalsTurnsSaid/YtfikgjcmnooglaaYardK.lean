/- YARDS: the code's Cut, Take and Same; the plain law of Put. -/
import Derived.Test.YtfikgjcmnooglaaYardX
import Derived.Test.YtfikgjcmnooglaaYardA
import Derived.Test.YtfikgjcmnooglaaCal8
import Derived.Test.YtfikgjcmnooglaaYardLaw
namespace Go.Proofs.Ytfikgjcmnooglaa

section
open Go.RowKit Go.Shelf

def genTo (f : List Sl → List Sl) (ns : List (List Sl)) (k : Nat) : List (List Sl) := ns.mapIdx (fun i c => if i < k then f c else c)
theorem genTo_len (f : List Sl → List Sl) (ns : List (List Sl)) (k : Nat) : (genTo f ns k).length = ns.length := by unfold genTo; simp
theorem genTo_at (f : List Sl → List Sl) (ns : List (List Sl)) (k i : Nat) : (genTo f ns k)[i]? = (ns[i]?).map (fun c => if i < k then f c else c) := by unfold genTo; rw [List.getElem?_mapIdx]
theorem genTo_zero (f : List Sl → List Sl) (ns : List (List Sl)) : genTo f ns 0 = ns := by
  refine List.ext_getElem? fun i => ?_
  rw [genTo_at]
  cases ns[i]? <;> simp
theorem genTo_all (f : List Sl → List Sl) (ns : List (List Sl)) : genTo f ns ns.length = ns.map f := by
  refine List.ext_getElem? fun i => ?_
  rw [genTo_at, List.getElem?_map]
  cases hc : ns[i]? with
  | none => rfl
  | some c => rw [Option.map_some, Option.map_some, if_pos (List.getElem?_eq_some_iff.1 hc).1]
theorem genTo_step {f : List Sl → List Sl} {ns : List (List Sl)} {k : Nat} {c : List Sl} (hc : ns[k]? = some c) : (genTo f ns k).set k (f c) = genTo f ns (k + 1) := by
  have hk := (List.getElem?_eq_some_iff.1 hc).1
  refine List.ext_getElem? fun i => ?_
  by_cases hi : i = k
  · subst hi
    rw [List.getElem?_set_self (by rw [genTo_len]; exact hk), genTo_at, hc, Option.map_some, if_pos (by omega)]
  · rw [List.getElem?_set_ne (by omega), genTo_at, genTo_at]
    congr 1
    funext c
    by_cases hk : i < k
    · rw [if_pos hk, if_pos (by omega)]
    · rw [if_neg hk, if_neg (by omega)]
/-- What is known behind a calendar's being cut. -/
def Cutt (w : World) (G off : Nat) (c' : List Sl) (W' : World) : Prop :=
  ∃ W1 u, Below w.heap.size w W1 ∧ W1.ownsRow w.heap.size 57 3 u c'.length (slc c') ∧ W' = W1.setCell ⟨G, off, none⟩ u
set_option maxRecDepth 100000 in set_option maxHeartbeats 4000000 in
theorem cals_cut1 (kk : Bool) (i G off P Q : Nat) (tP tQ : TypeId) (ow tm : Int) (b : Option Addr) (cap : Nat) (c : List Sl) (w : World) (hp : Blk w P tP #[.int .i64 ow]) (hq : Blk w Q tQ #[.int .i64 tm])
    (hcell : w.cell? ⟨G, off, none⟩ = some (.slice b c.length cap)) (hfr : w.frozen? ⟨G, off, none⟩ = false) (hc : CIn w b c) :
    Calls Try.prog 111 #[.bool kk, .int .i64 (i : Int), .pointer (some ⟨G, off, none⟩), .pointer (some ⟨P, 0, none⟩), .pointer (some ⟨Q, 0, none⟩)] w (fun e W' => e = .returned (.tuple #[]) ∧ Cutt w G off (cutV ow tm c) W') := by
  have HC := Lib.hid (fun W (h : Below w.heap.size w W) => cal_Cut b cap c ow tm W (hc.keep h))
  have HP := Lib.hid hp
  have HQ := Lib.hid hq
  have p0 := hp.cell 0 _ rfl
  have q0 := hq.cell 0 _ rfl
  have hG := World.block_lt_of_cell? w _ hcell
  have mixed : Try.prog.follows .mixedOrders = true := by kernel_rfl
  generalize calE c = x at *
  generalize cutV ow tm c = cv at *
  clear hp hq hc
  go_enter Try.func111, Try.ntmps111
  go_region_with
    (first | ((with_reducible refine (HC.out _ (by (repeat (first | (with_reducible exact Below.refl _ _) | (with_reducible assumption) | (with_reducible refine below_alloc ?_ _) | (with_reducible refine below_drewN ?_ _) | (with_reducible refine Below.drew ?_) | (with_reducible refine below_then ?_ (by with_reducible assumption)) | (with_reducible refine Below.setCell ?_ (by go_size) _))))).mono ?_); rintro e wa ⟨va, rfl, hoa, hba⟩; obtain ⟨xa, ya, rfl, _⟩ := own_rd hoa; have HBa := below_then (show Below w.heap.size w _ by (repeat (first | (with_reducible exact Below.refl _ _) | (with_reducible assumption) | (with_reducible refine below_alloc ?_ _) | (with_reducible refine below_drewN ?_ _) | (with_reducible refine Below.drew ?_) | (with_reducible refine below_then ?_ (by with_reducible assumption)) | (with_reducible refine Below.setCell ?_ (by go_size) _)))) hba; have ea := (HBa.cell (p := ⟨G, off, none⟩) hG).trans hcell; have fa := (HBa.frozen (p := ⟨G, off, none⟩) hG).trans hfr; have pa := (HP.out.below HBa).cell 0 _ rfl; have qa := (HQ.out.below HBa).cell 0 _ rfl))
  all_goals go_wp2_with fail
  all_goals go_returns
  all_goals exact ⟨rfl, wa, .slice xa cv.length ya, HBa, own_mono hoa (by first | exact Nat.le_refl _ | omega), rfl⟩

/-! ### Cut at each -/
structure CBk (W : World) (Y P Q R : Nat) (tY tP tQ tR : TypeId) (yv zv : Array Value) (ow tm : Int) : Prop where
  y : Blk W Y tY yv
  p : Blk W P tP #[.int .i64 ow]
  q : Blk W Q tQ #[.int .i64 tm]
  r : Blk W R tR zv
theorem CBk.keep {Y P Q R : Nat} {tY tP tQ tR : TypeId} {yv zv : Array Value} {ow tm : Int} {w W : World} (h : CBk w Y P Q R tY tP tQ tR yv zv ow tm) (hb : Below w.heap.size w W) : CBk W Y P Q R tY tP tQ tR yv zv ow tm := ⟨h.y.below hb, h.p.below hb, h.q.below hb, h.r.below hb⟩
theorem cutt_step {Y P Q R : Nat} {tY tP tQ tR : TypeId} {yv zv : Array Value} {ow tm : Int} {w W W' : World} {S g cap k : Nat} {L : List (List Sl)} {v : Value} {c c' : List Sl} (ha : (Y < S ∧ P < S) ∧ Q < S ∧ R < S) (hT : w.heap.size ≤ S)
    (hp : CBk W Y P Q R tY tP tQ tR yv zv ow tm) (hb : Below w.heap.size w W) (hS : S ≤ W.heap.size) (hl : LO W S v L) (hv : v = .slice (some ⟨g, 0, none⟩) L.length cap) (hg : S ≤ g) (hc : L[k]? = some c) (hcl : c.length ≤ 1000000) (h : Cutt W g k c' W') :
    CBk W' Y P Q R tY tP tQ tR yv zv ow tm ∧ Below w.heap.size w W' ∧ S ≤ W'.heap.size ∧ LO W' S v (L.set k c') ∧ ∀ (u2 : Value) (ns2 : List (List Sl)), LO W S u2 ns2 → (u2.ownBlock = none ∨ u2.ownBlock ≠ some g) → LO W' S u2 ns2 := by
  obtain ⟨W1, u, h1, h2, rfl⟩ := h
  obtain ⟨⟨a1, a2⟩, a3, a4⟩ := ha
  have hp1 := hp.keep h1
  obtain ⟨g', cap', b, cp, e, _, _, _, _, _, _, _, hst⟩ := (hl.keep h1).step hc hcl
  rw [hv] at e
  cases e
  obtain ⟨q1, _, _, q4⟩ := hst _ u c' (Below.refl _ _) (own_mono h2 hS)
  refine ⟨⟨hp1.y.other _ _ _ (by omega), hp1.p.other _ _ _ (by omega), hp1.q.other _ _ _ (by omega), hp1.r.other _ _ _ (by omega)⟩, (below_then hb h1).setCell (by show w.heap.size ≤ g; omega) _, ?_, q1, ?_⟩
  · rw [sz_set]; have := h1.size; omega
  · intro u2 ns2 hlo hne
    exact q4 S u2 ns2 (hlo.keep h1) hne
def CI (Y P Q R : Nat) (tY tP tQ tR : TypeId) (yv zv : Array Value) (ow tm : Int) (w : World) (S : Nat) (u v : Value) (ns ls : List (List Sl)) (k : Nat) (W : World) : Prop :=
  CBk W Y P Q R tY tP tQ tR yv zv ow tm ∧ LO W S u (genTo (cutV ow tm) ns k) ∧ LO W S v ls ∧ Below w.heap.size w W ∧ S ≤ W.heap.size
def CJ (Y P Q R : Nat) (tY tP tQ tR : TypeId) (yv zv : Array Value) (ow tm : Int) (w : World) (S : Nat) (u v : Value) (ns ls : List (List Sl)) (k : Nat) (W : World) : Prop :=
  CBk W Y P Q R tY tP tQ tR yv zv ow tm ∧ LO W S u (genTo (cutV ow tm) ns ns.length) ∧ LO W S v (genTo (cutV ow tm) ls k) ∧ Below w.heap.size w W ∧ S ≤ W.heap.size
theorem cut_each (Y P Q R : Nat) (tY tP tQ tR : TypeId) (yv zv : Array Value) (ow tm : Int) (d : V3) (ub vb : Option Addr) (uc vc S : Nat) (ns ls : List (List Sl)) (w W : World)
    (hyv : yv = #[.int .i64 d.x, .int .i64 d.y, .int .i64 d.z, (.slice ub ns.length uc), (.slice vb ls.length vc)]) (ha : (Y < S ∧ P < S) ∧ Q < S ∧ R < S) (hT : w.heap.size ≤ S)
    (s1 : ns.length ≤ 1000 ∧ ∀ c ∈ ns, c.length ≤ 10000) (s2 : ls.length ≤ 1000 ∧ ∀ c ∈ ls, c.length ≤ 10000)
    (hne : (Value.slice ub ns.length uc).ownBlock = none ∨ (Value.slice ub ns.length uc).ownBlock ≠ (Value.slice vb ls.length vc).ownBlock)
    (h0 : CI Y P Q R tY tP tQ tR yv zv ow tm w S (.slice ub ns.length uc) (.slice vb ls.length vc) ns ls 0 W) :
    Calls Try.prog 103 #[.pointer (some ⟨Y, 0, none⟩), .func (.func 111) #[] #[.pointer (some ⟨P, 0, none⟩), .pointer (some ⟨Q, 0, none⟩)]] W (fun e W' => e = .returned (.tuple #[]) ∧ CJ Y P Q R tY tP tQ tR yv zv ow tm w S (.slice ub ns.length uc) (.slice vb ls.length vc) ns ls ls.length W') := by
  have eg1 : ∀ args w, (callFunc 111 args).run Try.prog w = .ok (.enter 111 args) w := enters_of Try.func111 (by kernel_rfl) rfl
  refine cals_each 111 #[.pointer (some ⟨P, 0, none⟩), .pointer (some ⟨Q, 0, none⟩)] Y ub vb uc vc ns.length ls.length (CI Y P Q R tY tP tQ tR yv zv ow tm w S (.slice ub ns.length uc) (.slice vb ls.length vc) ns ls) (CJ Y P Q R tY tP tQ tR yv zv ow tm w S (.slice ub ns.length uc) (.slice vb ls.length vc) ns ls) W eg1 s1.1 s2.1 ?_ ?_ ?_ ?_ ?_ h0
  · rintro k W ⟨h1, h2, h3, h4, h5⟩
    have := h1.y
    rw [hyv] at this
    exact this.cell 3 _ rfl
  · rintro k W ⟨h1, h2, h3, h4, h5⟩
    have := h1.y
    rw [hyv] at this
    exact this.cell 4 _ rfl
  · intro k W hlt hI
    obtain ⟨h1, h2, h3, h4, h5⟩ := hI
    obtain ⟨c, hc⟩ : ∃ c, ns[k]? = some c := ⟨_, List.getElem?_eq_getElem hlt⟩
    have hcm : (genTo (cutV ow tm) ns k)[k]? = some c := by rw [genTo_at, hc, Option.map_some, if_neg (by omega)]
    have hcl := s1.2 c (List.mem_of_getElem? hc)
    obtain ⟨g, cap, b, cp, e, hgB, hgl, hce, hfr, hci, hle, hnn, hst⟩ := h2.step hcm (by omega)
    rw [genTo_len] at e
    cases e
    refine ⟨g, 0, rfl, ?_⟩
    refine Calls.mono (cals_cut1 false k g (0 + k) P Q tP tQ ow tm b cp c W h1.p h1.q (by rw [Nat.zero_add]; exact hce) (by rw [Nat.zero_add]; exact hfr) hci) ?_
    rintro e w1 ⟨rfl, hp⟩
    rw [Nat.zero_add] at hp
    obtain ⟨k1, k2, k3, k4, k5⟩ := cutt_step ha hT h1 h4 h5 h2 (by rw [genTo_len]) hgB hcm (by omega) hp
    exact ⟨rfl, k1, by rw [← genTo_step hc]; exact k4, k5 _ _ h3 (hne_symm hne), k2, k3⟩
  · rintro W ⟨h1, h2, h3, h4, h5⟩
    exact ⟨h1, h2, by rw [genTo_zero]; exact h3, h4, h5⟩
  · intro k W hlt hJ
    obtain ⟨h1, h2, h3, h4, h5⟩ := hJ
    obtain ⟨c, hc⟩ : ∃ c, ls[k]? = some c := ⟨_, List.getElem?_eq_getElem hlt⟩
    have hcm : (genTo (cutV ow tm) ls k)[k]? = some c := by rw [genTo_at, hc, Option.map_some, if_neg (by omega)]
    have hcl := s2.2 c (List.mem_of_getElem? hc)
    obtain ⟨g, cap, b, cp, e, hgB, hgl, hce, hfr, hci, hle, hnn, hst⟩ := h3.step hcm (by omega)
    rw [genTo_len] at e
    cases e
    refine ⟨g, 0, rfl, ?_⟩
    refine Calls.mono (cals_cut1 true k g (0 + k) P Q tP tQ ow tm b cp c W h1.p h1.q (by rw [Nat.zero_add]; exact hce) (by rw [Nat.zero_add]; exact hfr) hci) ?_
    rintro e w1 ⟨rfl, hp⟩
    rw [Nat.zero_add] at hp
    obtain ⟨k1, k2, k3, k4, k5⟩ := cutt_step ha hT h1 h4 h5 h3 (by rw [genTo_len]) hgB hcm (by omega) hp
    exact ⟨rfl, k1, k5 _ _ h2 hne, by rw [← genTo_step hc]; exact k4, k2, k3⟩
/-! ### Cut -/
def yCutV (ow tm : Int) (y : Yd) : Yd := if y.okB then ⟨y.d, y.ns.map (cutV ow tm), y.ls.map (cutV ow tm)⟩ else Yd.zero
theorem cbk_new (w : World) (d : V3) (bn bl : Option Addr) (cn cl : Nat) (ns ls : List (List Sl)) (ow tm : Int) : CBk ((((w.alloc (.cells #[.int .i64 d.x, .int .i64 d.y, .int .i64 d.z, (.slice bn ns.length cn), (.slice bl ls.length cl)] 42)).alloc (.cells #[.int .i64 ow] 3)).alloc (.cells #[.int .i64 tm] 3)).alloc (.cells #[.int .i64 0, .int .i64 0, .int .i64 0, .slice none 0 0, .slice none 0 0] 42)) w.heap.size (w.heap.size + 1) (w.heap.size + 1 + 1) (w.heap.size + 1 + 1 + 1) 42 3 3 42 #[.int .i64 d.x, .int .i64 d.y, .int .i64 d.z, (.slice bn ns.length cn), (.slice bl ls.length cl)] #[.int .i64 0, .int .i64 0, .int .i64 0, .slice none 0 0, .slice none 0 0] ow tm := by
  have e1 : w.heap.size + 1 = (w.alloc (.cells #[.int .i64 d.x, .int .i64 d.y, .int .i64 d.z, (.slice bn ns.length cn), (.slice bl ls.length cl)] 42)).heap.size := by simp
  have e2 : w.heap.size + 1 + 1 = ((w.alloc (.cells #[.int .i64 d.x, .int .i64 d.y, .int .i64 d.z, (.slice bn ns.length cn), (.slice bl ls.length cl)] 42)).alloc (.cells #[.int .i64 ow] 3)).heap.size := by simp
  have e3 : w.heap.size + 1 + 1 + 1 = (((w.alloc (.cells #[.int .i64 d.x, .int .i64 d.y, .int .i64 d.z, (.slice bn ns.length cn), (.slice bl ls.length cl)] 42)).alloc (.cells #[.int .i64 ow] 3)).alloc (.cells #[.int .i64 tm] 3)).heap.size := by simp
  refine ⟨(((Blk.new ..).alloc _).alloc _).alloc _, ?_, ?_, ?_⟩
  · rw [e1]; exact ((Blk.new ..).alloc _).alloc _
  · rw [e2]; exact (Blk.new ..).alloc _
  · rw [e3]; exact Blk.new ..
set_option maxRecDepth 100000 in set_option maxHeartbeats 4000000 in
theorem cals_Cut (d : V3) (bn bl : Option Addr) (cn cl : Nat) (ns ls : List (List Sl)) (ow tm : Int) (w : World) (hn : CC w bn ns) (hl : CC w bl ls) :
    Calls Try.prog 52 #[.agg #[.int .i64 d.x, .int .i64 d.y, .int .i64 d.z, (.slice bn ns.length cn), (.slice bl ls.length cl)], .int .i64 ow, .int .i64 tm] w (RYE w (yCutV ow tm ⟨d, ns, ls⟩) (Yd.chk ⟨d, ns, ls⟩)) := by
  obtain ⟨W0, hW0⟩ : ∃ W0, W0 = ((((w.alloc (.cells #[.int .i64 d.x, .int .i64 d.y, .int .i64 d.z, (.slice bn ns.length cn), (.slice bl ls.length cl)] 42)).alloc (.cells #[.int .i64 ow] 3)).alloc (.cells #[.int .i64 tm] 3)).alloc (.cells #[.int .i64 0, .int .i64 0, .int .i64 0, .slice none 0 0, .slice none 0 0] 42)) := ⟨_, rfl⟩
  have CB := Lib.hid (show CBk W0 w.heap.size (w.heap.size + 1) (w.heap.size + 1 + 1) (w.heap.size + 1 + 1 + 1) 42 3 3 42 #[.int .i64 d.x, .int .i64 d.y, .int .i64 d.z, (.slice bn ns.length cn), (.slice bl ls.length cl)] #[.int .i64 0, .int .i64 0, .int .i64 0, .slice none 0 0, .slice none 0 0] ow tm by rw [hW0]; exact cbk_new ..)
  have HB := Lib.hid (show Below w.heap.size w W0 by rw [hW0]; (repeat (first | (with_reducible exact Below.refl _ _) | (with_reducible assumption) | (with_reducible refine below_alloc ?_ _) | (with_reducible refine below_drewN ?_ _) | (with_reducible refine Below.drew ?_) | (with_reducible refine below_then ?_ (by with_reducible assumption)) | (with_reducible refine Below.setCell ?_ (by go_size) _))))
  have hz0 : w.heap.size + 4 ≤ W0.heap.size := by rw [hW0]; simp
  have M1 := Lib.hid (fun W (h : Below w.heap.size w W) => cals_Check d bn bl cn cl ns ls W (hn.keep h) (hl.keep h))
  have T1 := Lib.hid (fun W (h : Below w.heap.size w W) => cals_twin d bn bl cn cl ns ls W (hn.keep h) (hl.keep h))
  have Ssm := Lib.hid (And.intro (And.intro hn.many hn.small) (And.intro hl.many hl.small))
  have HW := Lib.hid hW0
  clear hn hl hW0
  cases hok : Yd.okB ⟨d, ns, ls⟩ with
  | false =>
    have hE : Yd.chk ⟨d, ns, ls⟩ = 8 := by unfold Yd.chk; rw [hok]; rfl
    have hV : yCutV ow tm ⟨d, ns, ls⟩ = Yd.zero := by unfold yCutV; rw [hok]; rfl
    rw [hE, hV]
    rw [hE] at M1
    clear hE hV hok
    go_enter Try.func52, Try.ntmps52
    go_upto_region 1 with fail
    rw [← HW.out]
    (have y0 := CB.out.y.cell 0 _ rfl; have y1 := CB.out.y.cell 1 _ rfl; have y2 := CB.out.y.cell 2 _ rfl; have y3 := CB.out.y.cell 3 _ rfl; have y4 := CB.out.y.cell 4 _ rfl)
    go_wp2_with fail
    refine (M1.out _ HB.out).mono ?_
    rintro e w1 ⟨rfl, hb1⟩
    have CB := Lib.hid (CB.out.keep hb1)
    have HB := Lib.hid (below_then HB.out hb1)
    clear hb1 y0 y1 y2 y3 y4
    (have q0 := CB.out.r.cell 0 _ rfl; have q1 := CB.out.r.cell 1 _ rfl; have q2 := CB.out.r.cell 2 _ rfl; have q3 := CB.out.r.cell 3 _ rfl; have q4 := CB.out.r.cell 4 _ rfl; have g0 := CB.out.r.frozen 0; have g1 := CB.out.r.frozen 1; have g2 := CB.out.r.frozen 2; have g3 := CB.out.r.frozen 3; have g4 := CB.out.r.frozen 4)
    go_wp2_with fail
    (have R0 := (CB.out.r).set 0 (.int .i64 0); have R1 := R0.set 1 (.int .i64 0); have R2 := R1.set 2 (.int .i64 0); have R3 := R2.set 3 (.slice none 0 0); have R4 := R3.set 4 (.slice none 0 0); have r0 := R0.cell 0 (.int .i64 0) rfl; have r1 := R1.cell 1 (.int .i64 0) rfl; have r2 := R2.cell 2 (.int .i64 0) rfl; have r3 := R3.cell 3 (.slice none 0 0) rfl; have r4 := R4.cell 4 (.slice none 0 0) rfl; clear R0 R1 R2 R3 R4; refine bodyPost_ret (by simp [results, Try.results52, go_sem, r0, r1, r2, r3, r4]; try rfl) rfl ?_)
    exact RYE.zero _ _ _ (by have hbF := HB.out; (repeat (first | (with_reducible exact Below.refl _ _) | (with_reducible assumption) | (with_reducible refine below_alloc ?_ _) | (with_reducible refine below_drewN ?_ _) | (with_reducible refine Below.drew ?_) | (with_reducible refine below_then ?_ (by with_reducible assumption)) | (with_reducible refine Below.setCell ?_ (by go_size) _))))
  | true =>
    have hE : Yd.chk ⟨d, ns, ls⟩ = 0 := by unfold Yd.chk; rw [hok]; rfl
    have hV : yCutV ow tm ⟨d, ns, ls⟩ = ⟨d, ns.map (cutV ow tm), ls.map (cutV ow tm)⟩ := by unfold yCutV; rw [if_pos hok]
    rw [hE] at M1
    have HEV := Lib.hid (And.intro hE hV)
    clear hE hV hok
    go_enter Try.func52, Try.ntmps52
    go_upto_region 1 with fail
    rw [← HW.out]
    (have y0 := CB.out.y.cell 0 _ rfl; have y1 := CB.out.y.cell 1 _ rfl; have y2 := CB.out.y.cell 2 _ rfl; have y3 := CB.out.y.cell 3 _ rfl; have y4 := CB.out.y.cell 4 _ rfl)
    go_wp2_with fail
    refine (M1.out _ HB.out).mono ?_
    rintro e w1 ⟨rfl, hb1⟩
    have CB := Lib.hid (CB.out.keep hb1)
    have HB := Lib.hid (below_then HB.out hb1)
    have hz1 : w.heap.size + 4 ≤ w1.heap.size := Nat.le_trans hz0 hb1.size
    clear hb1 y0 y1 y2 y3 y4 hz0
    (have y0 := CB.out.y.cell 0 _ rfl; have y1 := CB.out.y.cell 1 _ rfl; have y2 := CB.out.y.cell 2 _ rfl; have y3 := CB.out.y.cell 3 _ rfl; have y4 := CB.out.y.cell 4 _ rfl)
    go_wp2_with fail
    refine (T1.out _ HB.out).mono ?_
    rintro e w3 ⟨u, v, rfl, hu, hv, hne, hb3⟩
    obtain ⟨ub, uc, rfl⟩ := hu.slice
    obtain ⟨vb, vc, rfl⟩ := hv.slice
    have CB := Lib.hid (CB.out.keep hb3)
    have HB := Lib.hid (below_then HB.out hb3)
    have HU := Lib.hid hu
    have HV := Lib.hid hv
    have HNE := Lib.hid hne
    have hz3 := hb3.size
    clear hu hv hne hb3 y0 y1 y2 y3 y4
    (have y0 := CB.out.y.cell 0 _ rfl; have y1 := CB.out.y.cell 1 _ rfl; have y2 := CB.out.y.cell 2 _ rfl; have y3 := CB.out.y.cell 3 _ rfl; have y4 := CB.out.y.cell 4 _ rfl)
    have e0 := CB.out.y.frozen 0
    have e1 := CB.out.y.frozen 1
    have e2 := CB.out.y.frozen 2
    have e3 := CB.out.y.frozen 3
    have e4 := CB.out.y.frozen 4
    go_upto_region 5 with fail
    obtain ⟨w4, hw4⟩ : ∃ w4, w4 = (((((w3.setCell ⟨w.heap.size, 0, none⟩ (.int .i64 d.x)).setCell ⟨w.heap.size, 1, none⟩ (.int .i64 d.y)).setCell ⟨w.heap.size, 2, none⟩ (.int .i64 d.z)).setCell ⟨w.heap.size, 3, none⟩ (.slice ub ns.length uc)).setCell ⟨w.heap.size, 4, none⟩ (.slice vb ls.length vc)) := ⟨_, rfl⟩
    rw [← hw4]
    have HP := Lib.hid (show CI w.heap.size (w.heap.size + 1) (w.heap.size + 1 + 1) (w.heap.size + 1 + 1 + 1) 42 3 3 42 #[.int .i64 d.x, .int .i64 d.y, .int .i64 d.z, (.slice ub ns.length uc), (.slice vb ls.length vc)] #[.int .i64 0, .int .i64 0, .int .i64 0, .slice none 0 0, .slice none 0 0] ow tm w w1.heap.size (.slice ub ns.length uc) (.slice vb ls.length vc) ns ls 0 w4 by
      rw [hw4]
      exact ⟨⟨CB.out.y.five', CB.out.p.five (by omega), CB.out.q.five (by omega), CB.out.r.five (by omega)⟩, by rw [genTo_zero]; exact LO.five HU.out (by omega) (Nat.le_refl _), LO.five HV.out (by omega) (Nat.le_refl _), below_five HB.out (Nat.le_refl _), by rw [sz_set, sz_set, sz_set, sz_set, sz_set]; exact hz3⟩)
    have HEa := Lib.hid (cut_each w.heap.size (w.heap.size + 1) (w.heap.size + 1 + 1) (w.heap.size + 1 + 1 + 1) 42 3 3 42 #[.int .i64 d.x, .int .i64 d.y, .int .i64 d.z, (.slice ub ns.length uc), (.slice vb ls.length vc)] #[.int .i64 0, .int .i64 0, .int .i64 0, .slice none 0 0, .slice none 0 0] ow tm d ub vb uc vc w1.heap.size ns ls w w4 rfl ⟨⟨by omega, by omega⟩, by omega, by omega⟩ (by omega) Ssm.out.1 Ssm.out.2 HNE.out HP.out)
    clear hw4 HP CB HB HU HV HNE hz3 y0 y1 y2 y3 y4 e0 e1 e2 e3 e4
    go_wp2_with fail
    refine HEa.out.mono ?_
    rintro e w5 ⟨rfl, hB, hu5, hv5, hb5, hz5⟩
    have CB := Lib.hid hB
    have HU := Lib.hid hu5
    have HV := Lib.hid hv5
    have HB := Lib.hid hb5
    clear hB hu5 hv5 hb5 hz5 HEa
    rw [genTo_all] at HU HV
    (have y0 := CB.out.y.cell 0 _ rfl; have y1 := CB.out.y.cell 1 _ rfl; have y2 := CB.out.y.cell 2 _ rfl; have y3 := CB.out.y.cell 3 _ rfl; have y4 := CB.out.y.cell 4 _ rfl)
    (have q0 := CB.out.r.cell 0 _ rfl; have q1 := CB.out.r.cell 1 _ rfl; have q2 := CB.out.r.cell 2 _ rfl; have q3 := CB.out.r.cell 3 _ rfl; have q4 := CB.out.r.cell 4 _ rfl; have g0 := CB.out.r.frozen 0; have g1 := CB.out.r.frozen 1; have g2 := CB.out.r.frozen 2; have g3 := CB.out.r.frozen 3; have g4 := CB.out.r.frozen 4)
    go_wp2_with fail
    (have R0 := (CB.out.r).set 0 (.int .i64 d.x); have R1 := R0.set 1 (.int .i64 d.y); have R2 := R1.set 2 (.int .i64 d.z); have R3 := R2.set 3 (.slice ub ns.length uc); have R4 := R3.set 4 (.slice vb ls.length vc); have r0 := R0.cell 0 (.int .i64 d.x) rfl; have r1 := R1.cell 1 (.int .i64 d.y) rfl; have r2 := R2.cell 2 (.int .i64 d.z) rfl; have r3 := R3.cell 3 (.slice ub ns.length uc) rfl; have r4 := R4.cell 4 (.slice vb ls.length vc) rfl; clear R0 R1 R2 R3 R4; refine bodyPost_ret (by simp [results, Try.results52, go_sem, r0, r1, r2, r3, r4]; try rfl) rfl ?_)
    rw [HEV.out.1, HEV.out.2]
    exact ⟨_, _, rfl, LO.five HU.out (by omega) (by omega), LO.five HV.out (by omega) (by omega), by have hbF := HB.out; (repeat (first | (with_reducible exact Below.refl _ _) | (with_reducible assumption) | (with_reducible refine below_alloc ?_ _) | (with_reducible refine below_drewN ?_ _) | (with_reducible refine Below.drew ?_) | (with_reducible refine below_then ?_ (by with_reducible assumption)) | (with_reducible refine Below.setCell ?_ (by go_size) _)))⟩
set_option maxRecDepth 100000 in set_option maxHeartbeats 4000000 in
theorem cals_Take (d : V3) (bn bl : Option Addr) (cn cl : Nat) (ns ls : List (List Sl)) (ow : Int) (w : World) (hn : CC w bn ns) (hl : CC w bl ls) :
    Calls Try.prog 54 #[.agg #[.int .i64 d.x, .int .i64 d.y, .int .i64 d.z, (.slice bn ns.length cn), (.slice bl ls.length cl)], .int .i64 ow] w (RYE w (yCutV ow 0 ⟨d, ns, ls⟩) (Yd.chk ⟨d, ns, ls⟩)) := by
  obtain ⟨W0, hW0⟩ : ∃ W0, W0 = (w.alloc (.cells #[.int .i64 d.x, .int .i64 d.y, .int .i64 d.z, (.slice bn ns.length cn), (.slice bl ls.length cl)] 42)).alloc (.cells #[.int .i64 0, .int .i64 0, .int .i64 0, .slice none 0 0, .slice none 0 0] 42) := ⟨_, rfl⟩
  have YB := Lib.hid (show Blk W0 w.heap.size 42 #[.int .i64 d.x, .int .i64 d.y, .int .i64 d.z, (.slice bn ns.length cn), (.slice bl ls.length cl)] by rw [hW0]; exact (Blk.new ..).alloc _)
  have RB := Lib.hid (show Blk W0 (w.heap.size + 1) 42 #[.int .i64 0, .int .i64 0, .int .i64 0, .slice none 0 0, .slice none 0 0] by rw [hW0, show w.heap.size + 1 = (w.alloc (.cells #[.int .i64 d.x, .int .i64 d.y, .int .i64 d.z, (.slice bn ns.length cn), (.slice bl ls.length cl)] 42)).heap.size by simp]; exact Blk.new ..)
  have HB := Lib.hid (show Below w.heap.size w W0 by rw [hW0]; (repeat (first | (with_reducible exact Below.refl _ _) | (with_reducible assumption) | (with_reducible refine below_alloc ?_ _) | (with_reducible refine below_drewN ?_ _) | (with_reducible refine Below.drew ?_) | (with_reducible refine below_then ?_ (by with_reducible assumption)) | (with_reducible refine Below.setCell ?_ (by go_size) _))))
  have C1 := Lib.hid (fun W (h : Below w.heap.size w W) => cals_Cut d bn bl cn cl ns ls ow 0 W (hn.keep h) (hl.keep h))
  have HW := Lib.hid hW0
  clear hn hl hW0
  generalize yCutV ow 0 ⟨d, ns, ls⟩ = z at *
  generalize Yd.chk ⟨d, ns, ls⟩ = x at *
  go_enter Try.func54, Try.ntmps54
  go_upto_region 1 with fail
  rw [← HW.out]
  have y0 := YB.out.cell 0 _ rfl
  have y1 := YB.out.cell 1 _ rfl
  have y2 := YB.out.cell 2 _ rfl
  have y3 := YB.out.cell 3 _ rfl
  have y4 := YB.out.cell 4 _ rfl
  go_wp2_with fail
  refine (C1.out _ HB.out).mono ?_
  rintro e w1 ⟨u, v, rfl, hu, hv, hb1⟩
  obtain ⟨ub, uc, rfl⟩ := hu.slice
  obtain ⟨vb, vc, rfl⟩ := hv.slice
  have hR := RB.out.lt
  have hsz := HB.out.size
  have RB := Lib.hid (RB.out.below hb1)
  have HB := Lib.hid (below_then HB.out hb1)
  have HU := Lib.hid hu
  have HV := Lib.hid hv
  clear hu hv hb1 y0 y1 y2 y3 y4
  have q0 := RB.out.cell 0 _ rfl
  have q1 := RB.out.cell 1 _ rfl
  have q2 := RB.out.cell 2 _ rfl
  have q3 := RB.out.cell 3 _ rfl
  have q4 := RB.out.cell 4 _ rfl
  have g0 := RB.out.frozen 0
  have g1 := RB.out.frozen 1
  have g2 := RB.out.frozen 2
  have g3 := RB.out.frozen 3
  have g4 := RB.out.frozen 4
  go_wp2_with fail
  (have R0 := (RB.out).set 0 (.int .i64 z.d.x); have R1 := R0.set 1 (.int .i64 z.d.y); have R2 := R1.set 2 (.int .i64 z.d.z); have R3 := R2.set 3 (.slice ub z.ns.length uc); have R4 := R3.set 4 (.slice vb z.ls.length vc); have r0 := R0.cell 0 (.int .i64 z.d.x) rfl; have r1 := R1.cell 1 (.int .i64 z.d.y) rfl; have r2 := R2.cell 2 (.int .i64 z.d.z) rfl; have r3 := R3.cell 3 (.slice ub z.ns.length uc) rfl; have r4 := R4.cell 4 (.slice vb z.ls.length vc) rfl; clear R0 R1 R2 R3 R4; refine bodyPost_ret (by simp [results, Try.results54, go_sem, r0, r1, r2, r3, r4]; try rfl) rfl ?_)
  exact ⟨_, _, rfl, LO.five HU.out hR hsz, LO.five HV.out hR hsz, by have hbF := HB.out; (repeat (first | (with_reducible exact Below.refl _ _) | (with_reducible assumption) | (with_reducible refine below_alloc ?_ _) | (with_reducible refine below_drewN ?_ _) | (with_reducible refine Below.drew ?_) | (with_reducible refine below_then ?_ (by with_reducible assumption)) | (with_reducible refine Below.setCell ?_ (by go_size) _)))⟩
end

section
open Go.RowKit Go.Shelf

set_option maxRecDepth 100000 in set_option maxHeartbeats 4000000 in
theorem slices_Equal (ba bb : Option Addr) (ca cb : Nat) (a b : List Sl) (w : World) (ha : CIn w ba a) (hb : CIn w bb b) :
    Calls Try.prog 115 #[.slice ba a.length ca, .slice bb b.length cb] w (RB w (.bool (decide (a = b)))) := by
  have HA := Lib.hid ha
  have HB := Lib.hid hb
  have hla := ha.len
  have hlb := hb.len
  have hgd : Try.prog.eqGuardType Try.prog.depth 57 = false := by kernel_rfl
  clear ha hb
  by_cases hl : a.length = b.length
  · have HL := Lib.hid hl
    have HX := Lib.hid (fun h => List.ext_getElem (l₁ := a) (l₂ := b) hl h)
    have hll : (a.length == b.length) = true := by simpa using hl
    have hln : (a.length != b.length) = false := by simpa using hl
    clear hl
    go_enter Try.func115, Try.ntmps115
    go_wp2_with fail
    go_loopw [13] (fun i wr => ∃ k : Nat, k ≤ a.length ∧ i = .int .i64 k ∧ (∀ j (h1 : j < a.length) (h2 : j < b.length), j < k → a[j] = b[j]) ∧ Below w.heap.size w wr) (fun i _ => a.length - (intOf i).toNat)
    case atStart => exact ⟨0, Nat.zero_le _, rfl, fun j _ _ h => absurd h (by omega), Below.refl _ _⟩
    case round =>
      obtain ⟨k, hk, rfl, hall, hbel⟩ := hrel
      have HW := Lib.hid hbel
      have HF := Lib.hid hall
      clear hbel hall
      by_cases hlt : k < a.length
      · have hlt2 : k < b.length := by have := HL.out; omega
        obtain ⟨b1, o1, rfl, c0, c1, c2, hbl1⟩ := (HA.out.keep HW.out).at hlt
        obtain ⟨b2, o2, rfl, d0, d1, d2, hbl2⟩ := (HB.out.keep HW.out).at hlt2
        have hnx := Lib.hid (fun (h : a[k] = b[k]) (j : Nat) (h1 : j < a.length) (h2 : j < b.length) (hjk : j < k + 1) => show a[j] = b[j] by
          rcases Nat.lt_or_ge j k with h5 | h5
          · exact HF.out j h1 h2 h5
          · have : j = k := by omega
            subst this; exact h)
        have hno := Lib.hid (fun (h : a[k] ≠ b[k]) => show decide (a = b) = false by
          rw [decide_eq_false_iff_not]; intro e; subst e; exact h rfl)
        obtain ⟨x, hx⟩ : ∃ x, x = a[k] := ⟨_, rfl⟩
        obtain ⟨y, hy⟩ : ∃ y, y = b[k] := ⟨_, rfl⟩
        rw [← hx] at c0 c1 c2 hnx hno
        rw [← hy] at d0 d1 d2 hnx hno
        clear hx hy
        by_cases hr : x = y
        · have heq : ∀ w, (binOp .neq 57 (.agg #[.int .i64 x.f, .int .i64 x.t, .int .i64 x.o]) (.agg #[.int .i64 y.f, .int .i64 y.t, .int .i64 y.o])).run Try.prog w = .ok (.bool false) w := fun w => by rw [run_neq_slot, decide_eq_true hr]; rfl
          have hyes := Lib.hid (hnx.out hr)
          clear hnx hno hr
          go_wp2_with (refine wp_region_quiet_lit (by kernel_rfl) (by kernel_rfl) ?_; (repeat (any_goals (first | go_big_quiet_step (fail) | quiet_step (fail) | (refine wpQuiet_step (fun K hK => ?_); go_simp; split <;> (refine hK _ ?_; clear hK K))))); all_goals (refine wpQuiet_nil ?_; intro _ hw'; obtain ⟨nq, hw''⟩ := hw'; subst hw''))
          all_goals
            go_roundw
            case rel => exact ⟨k + 1, by omega, by go_num, hyes.out, by first | exact HW.out | exact below_drewN HW.out _⟩
            case measure => (simp [intOf] <;> omega)
        · have heq : ∀ w, (binOp .neq 57 (.agg #[.int .i64 x.f, .int .i64 x.t, .int .i64 x.o]) (.agg #[.int .i64 y.f, .int .i64 y.t, .int .i64 y.o])).run Try.prog w = .ok (.bool true) w := fun w => by rw [run_neq_slot, decide_eq_false hr]; rfl
          have hyes := Lib.hid (hno.out hr)
          clear hnx hno hr
          go_wp2_with (refine wp_region_quiet_lit (by kernel_rfl) (by kernel_rfl) ?_; (repeat (any_goals (first | go_big_quiet_step (fail) | quiet_step (fail) | (refine wpQuiet_step (fun K hK => ?_); go_simp; split <;> (refine hK _ ?_; clear hK K))))); all_goals (refine wpQuiet_nil ?_; intro _ hw'; obtain ⟨nq, hw''⟩ := hw'; subst hw''))
          all_goals
            go_returns
            exact ⟨by rw [hyes.out]; rfl, by first | exact HW.out | exact below_drewN HW.out _⟩
      · obtain rfl : k = a.length := by omega
        have hq := Lib.hid (show decide (a = b) = true by rw [decide_eq_true_iff]; exact HX.out (fun j h1 h2 => HF.out j h1 h2 h1))
        go_wp2_with fail
        go_returns
        exact ⟨by rw [hq.out]; rfl, HW.out⟩
  · have hq := Lib.hid (show decide (a = b) = false by rw [decide_eq_false_iff_not]; intro e; subst e; exact hl rfl)
    have hll : (a.length == b.length) = false := by simpa using hl
    have hln : (a.length != b.length) = true := by simpa using hl
    clear hl
    go_enter Try.func115, Try.ntmps115
    go_wp2_with fail
    go_returns
    exact ⟨by rw [hq.out]; rfl, by (repeat (first | (with_reducible exact Below.refl _ _) | (with_reducible assumption) | (with_reducible refine below_alloc ?_ _) | (with_reducible refine below_drewN ?_ _) | (with_reducible refine Below.drew ?_) | (with_reducible refine below_then ?_ (by with_reducible assumption)) | (with_reducible refine Below.setCell ?_ (by go_size) _)))⟩
set_option maxRecDepth 100000 in set_option maxHeartbeats 4000000 in
theorem slices_EqualFunc (ba bb : Option Addr) (ca cb : Nat) (a b : List (List Sl)) (w : World) (ha : CC w ba a) (hb : CC w bb b) :
    Calls Try.prog 116 #[.slice ba a.length ca, .slice bb b.length cb, .func (.func 115) #[] #[]] w (RB w (.bool (decide (a = b)))) := by
  have eg : ∀ args w, (callFunc 115 args).run Try.prog w = .ok (.enter 115 args) w := enters_of Try.func115 (by kernel_rfl) rfl
  have HA := Lib.hid ha
  have HB2 := Lib.hid hb
  have h9 := ha.many
  have h8 := hb.many
  clear ha hb
  by_cases hlen : a.length = b.length
  · have heq : ((a.length : Int) == (b.length : Int)) = true := beq_iff_eq.2 (by omega)
    have heqn : ((a.length : Int) != (b.length : Int)) = false := by rw [bne_eq_false_iff_eq]; omega
    have HL := Lib.hid hlen
    clear hlen
    go_enter Try.func116, Try.ntmps116
    go_wp2_with fail
    go_loopw [17] (fun i wr => ∃ k : Nat, k ≤ a.length ∧ i = .int .i64 k ∧ a.take k = b.take k ∧ Below w.heap.size w wr) (fun i _ => a.length - (intOf i).toNat)
    case atStart => exact ⟨0, Nat.zero_le _, rfl, by simp, by (repeat (first | (with_reducible exact Below.refl _ _) | (with_reducible assumption) | (with_reducible refine below_alloc ?_ _) | (with_reducible refine below_drewN ?_ _) | (with_reducible refine Below.drew ?_) | (with_reducible refine below_then ?_ (by with_reducible assumption)) | (with_reducible refine Below.setCell ?_ (by go_size) _)))⟩
    case round =>
      obtain ⟨k, hk, rfl, h0, hbel⟩ := hrel
      have H0 := Lib.hid h0
      have HB := Lib.hid hbel
      have hsz := hbel.size
      clear h0 hbel
      by_cases hlt : k < a.length
      · have hlt2 : k < b.length := by have := HL.out; omega
        obtain ⟨c, hc⟩ : ∃ c, a[k]? = some c := ⟨_, List.getElem?_eq_getElem hlt⟩
        obtain ⟨d, hd⟩ : ∃ d, b[k]? = some d := ⟨_, List.getElem?_eq_getElem hlt2⟩
        obtain ⟨g, o, p, cap, e, hcell, hgl, hcs, _⟩ := (HA.out.keep HB.out).at hc
        obtain ⟨g2, o2, p2, cap2, e2, hcell2, hgl2, hcs2, _⟩ := (HB2.out.keep HB.out).at hd
        subst e
        subst e2
        by_cases hcd : c = d
        · have HM := Lib.hid ((Calls.rb_eq (slices_Equal p p2 cap cap2 c d wr hcs hcs2) (show Value.bool (decide (c = d)) = .bool true by rw [decide_eq_true hcd])))
          have H1 := Lib.hid (same_takes hc hd H0.out hcd)
          clear hcs hcs2 hc hd hcd
          go_wp2_with ((with_reducible refine (HM.out).mono ?_); rintro e w1 ⟨rfl, hb1⟩; (obtain ⟨hc1, hf1⟩ := bcell hb1; have hz1 := hb1.size; (try simp at hz1)))
          all_goals
            go_roundw
            case rel => exact ⟨k + 1, by omega, by go_num, H1.out, below_then HB.out hb1⟩
            case measure => (simp [intOf] <;> omega)
        · have HM := Lib.hid ((Calls.rb_eq (slices_Equal p p2 cap cap2 c d wr hcs hcs2) (show Value.bool (decide (c = d)) = .bool false by rw [decide_eq_false hcd])))
          have HNo := Lib.hid (show decide (a = b) = false from decide_eq_false (fun e => by rw [e, hd] at hc; exact hcd (Option.some.inj hc).symm))
          clear hcs hcs2 hc hd hcd
          go_wp2_with ((with_reducible refine (HM.out).mono ?_); rintro e w1 ⟨rfl, hb1⟩; (obtain ⟨hc1, hf1⟩ := bcell hb1; have hz1 := hb1.size; (try simp at hz1)))
          all_goals
            go_returns
            exact ⟨by (first | (rw [HNo.out]; done) | (rw [HNo.out]; rfl) | (rw [HNo.out]; simp; done)), below_then HB.out hb1⟩
      · obtain rfl : k = a.length := by omega
        have HY := Lib.hid (show decide (a = b) = true by have := H0.out; rw [List.take_length, HL.out, List.take_length] at this; exact decide_eq_true this)
        go_wp2_with fail
        go_returns
        exact ⟨by (first | (rw [HY.out]; done) | (rw [HY.out]; rfl) | (rw [HY.out]; simp; done)), HB.out⟩
  · have heq : ((a.length : Int) == (b.length : Int)) = false := beq_eq_false_iff_ne.2 (by omega)
    have HNo := Lib.hid (show decide (a = b) = false from decide_eq_false (fun e => hlen (by rw [e])))
    clear hlen
    go_enter Try.func116, Try.ntmps116
    go_wp2_with fail
    go_returns
    exact ⟨by (first | (rw [HNo.out]; done) | (rw [HNo.out]; rfl) | (rw [HNo.out]; simp; done)), by (repeat (first | (with_reducible exact Below.refl _ _) | (with_reducible assumption) | (with_reducible refine below_alloc ?_ _) | (with_reducible refine below_drewN ?_ _) | (with_reducible refine Below.drew ?_) | (with_reducible refine below_then ?_ (by with_reducible assumption)) | (with_reducible refine Below.setCell ?_ (by go_size) _)))⟩
set_option maxRecDepth 100000 in set_option maxHeartbeats 4000000 in
theorem cals_Same (d e : V3) (bn bl bm bk : Option Addr) (cn cl cm ck : Nat) (ns ls ms ks : List (List Sl)) (w : World) (hn : CC w bn ns) (hl : CC w bl ls) (hm : CC w bm ms) (hk : CC w bk ks) :
    Calls Try.prog 59 #[.agg #[.int .i64 d.x, .int .i64 d.y, .int .i64 d.z, (.slice bn ns.length cn), (.slice bl ls.length cl)], .agg #[.int .i64 e.x, .int .i64 e.y, .int .i64 e.z, (.slice bm ms.length cm), (.slice bk ks.length ck)]] w (RB w (.bool (Yd.same ⟨d, ns, ls⟩ ⟨e, ms, ks⟩))) := by
  have M1 := Lib.hid (fun W (h : Below w.heap.size w W) => slices_EqualFunc bn bm cn cm ns ms W (hn.keep h) (hm.keep h))
  have M2 := Lib.hid (fun W (h : Below w.heap.size w W) => slices_EqualFunc bl bk cl ck ls ks W (hl.keep h) (hk.keep h))
  have hgd : Try.prog.eqGuardType Try.prog.depth 39 = false := by kernel_rfl
  clear hn hl hm hk
  cases h1 : decide (d = e) with
  | true =>
    have heq : ∀ w, (binOp .eql 39 (.agg #[.int .i64 d.x, .int .i64 d.y, .int .i64 d.z]) (.agg #[.int .i64 e.x, .int .i64 e.y, .int .i64 e.z])).run Try.prog w = .ok (.bool true) w := fun w => by rw [run_eql_dims, h1]
    cases h2 : decide (ns = ms) with
    | true =>
      have HR := Lib.hid (show Yd.same ⟨d, ns, ls⟩ ⟨e, ms, ks⟩ = decide (ls = ks) by unfold Yd.same; simp only; rw [h1, h2]; rfl)
      rw [h2] at M1
      generalize decide (ls = ks) = z at *
      clear h1 h2
      (go_enter Try.func59, Try.ntmps59; go_wp2_with (first | ((with_reducible refine (M1.out _ (by (repeat (first | (with_reducible exact Below.refl _ _) | (with_reducible assumption) | (with_reducible refine below_alloc ?_ _) | (with_reducible refine below_drewN ?_ _) | (with_reducible refine Below.drew ?_) | (with_reducible refine below_then ?_ (by with_reducible assumption)) | (with_reducible refine Below.setCell ?_ (by go_size) _))))).mono ?_); rintro e w1 ⟨rfl, hb1⟩; (obtain ⟨hc1, hf1⟩ := bcell hb1; have hz1 := hb1.size; (try simp at hz1); have hB : Below w.heap.size w w1 := (by (repeat (first | (with_reducible exact Below.refl _ _) | (with_reducible assumption) | (with_reducible refine below_alloc ?_ _) | (with_reducible refine below_drewN ?_ _) | (with_reducible refine Below.drew ?_) | (with_reducible refine below_then ?_ (by with_reducible assumption)) | (with_reducible refine Below.setCell ?_ (by go_size) _)))); obtain ⟨hcB, hfB⟩ := bcell hB; (try have z0 : w.heap.size < w1.heap.size := by omega); (try have z1 : w.heap.size + 1 < w1.heap.size := by omega); (try have z2 : w.heap.size + 2 < w1.heap.size := by omega); (try have z3 : w.heap.size + 3 < w1.heap.size := by omega))) | ((with_reducible refine (M2.out _ (by (repeat (first | (with_reducible exact Below.refl _ _) | (with_reducible assumption) | (with_reducible refine below_alloc ?_ _) | (with_reducible refine below_drewN ?_ _) | (with_reducible refine Below.drew ?_) | (with_reducible refine below_then ?_ (by with_reducible assumption)) | (with_reducible refine Below.setCell ?_ (by go_size) _))))).mono ?_); rintro e w1 ⟨rfl, hb1⟩; (obtain ⟨hc1, hf1⟩ := bcell hb1; have hz1 := hb1.size; (try simp at hz1); have hB : Below w.heap.size w w1 := (by (repeat (first | (with_reducible exact Below.refl _ _) | (with_reducible assumption) | (with_reducible refine below_alloc ?_ _) | (with_reducible refine below_drewN ?_ _) | (with_reducible refine Below.drew ?_) | (with_reducible refine below_then ?_ (by with_reducible assumption)) | (with_reducible refine Below.setCell ?_ (by go_size) _)))); obtain ⟨hcB, hfB⟩ := bcell hB; (try have z0 : w.heap.size < w1.heap.size := by omega); (try have z1 : w.heap.size + 1 < w1.heap.size := by omega); (try have z2 : w.heap.size + 2 < w1.heap.size := by omega); (try have z3 : w.heap.size + 3 < w1.heap.size := by omega)))); go_returns; exact ⟨by (first | (rw [HR.out]; done) | (rw [HR.out]; rfl) | (rw [HR.out]; simp; done)), by (repeat (first | (with_reducible exact Below.refl _ _) | (with_reducible assumption) | (with_reducible refine below_alloc ?_ _) | (with_reducible refine below_drewN ?_ _) | (with_reducible refine Below.drew ?_) | (with_reducible refine below_then ?_ (by with_reducible assumption)) | (with_reducible refine Below.setCell ?_ (by go_size) _)))⟩)
    | false =>
      have HR := Lib.hid (show Yd.same ⟨d, ns, ls⟩ ⟨e, ms, ks⟩ = false by unfold Yd.same; simp only; rw [h2]; simp)
      rw [h2] at M1
      clear h1 h2
      (go_enter Try.func59, Try.ntmps59; go_wp2_with (first | ((with_reducible refine (M1.out _ (by (repeat (first | (with_reducible exact Below.refl _ _) | (with_reducible assumption) | (with_reducible refine below_alloc ?_ _) | (with_reducible refine below_drewN ?_ _) | (with_reducible refine Below.drew ?_) | (with_reducible refine below_then ?_ (by with_reducible assumption)) | (with_reducible refine Below.setCell ?_ (by go_size) _))))).mono ?_); rintro e w1 ⟨rfl, hb1⟩; (obtain ⟨hc1, hf1⟩ := bcell hb1; have hz1 := hb1.size; (try simp at hz1); have hB : Below w.heap.size w w1 := (by (repeat (first | (with_reducible exact Below.refl _ _) | (with_reducible assumption) | (with_reducible refine below_alloc ?_ _) | (with_reducible refine below_drewN ?_ _) | (with_reducible refine Below.drew ?_) | (with_reducible refine below_then ?_ (by with_reducible assumption)) | (with_reducible refine Below.setCell ?_ (by go_size) _)))); obtain ⟨hcB, hfB⟩ := bcell hB; (try have z0 : w.heap.size < w1.heap.size := by omega); (try have z1 : w.heap.size + 1 < w1.heap.size := by omega); (try have z2 : w.heap.size + 2 < w1.heap.size := by omega); (try have z3 : w.heap.size + 3 < w1.heap.size := by omega))) | ((with_reducible refine (M2.out _ (by (repeat (first | (with_reducible exact Below.refl _ _) | (with_reducible assumption) | (with_reducible refine below_alloc ?_ _) | (with_reducible refine below_drewN ?_ _) | (with_reducible refine Below.drew ?_) | (with_reducible refine below_then ?_ (by with_reducible assumption)) | (with_reducible refine Below.setCell ?_ (by go_size) _))))).mono ?_); rintro e w1 ⟨rfl, hb1⟩; (obtain ⟨hc1, hf1⟩ := bcell hb1; have hz1 := hb1.size; (try simp at hz1); have hB : Below w.heap.size w w1 := (by (repeat (first | (with_reducible exact Below.refl _ _) | (with_reducible assumption) | (with_reducible refine below_alloc ?_ _) | (with_reducible refine below_drewN ?_ _) | (with_reducible refine Below.drew ?_) | (with_reducible refine below_then ?_ (by with_reducible assumption)) | (with_reducible refine Below.setCell ?_ (by go_size) _)))); obtain ⟨hcB, hfB⟩ := bcell hB; (try have z0 : w.heap.size < w1.heap.size := by omega); (try have z1 : w.heap.size + 1 < w1.heap.size := by omega); (try have z2 : w.heap.size + 2 < w1.heap.size := by omega); (try have z3 : w.heap.size + 3 < w1.heap.size := by omega)))); go_returns; exact ⟨by (first | (rw [HR.out]; done) | (rw [HR.out]; rfl) | (rw [HR.out]; simp; done)), by (repeat (first | (with_reducible exact Below.refl _ _) | (with_reducible assumption) | (with_reducible refine below_alloc ?_ _) | (with_reducible refine below_drewN ?_ _) | (with_reducible refine Below.drew ?_) | (with_reducible refine below_then ?_ (by with_reducible assumption)) | (with_reducible refine Below.setCell ?_ (by go_size) _)))⟩)
  | false =>
    have heq : ∀ w, (binOp .eql 39 (.agg #[.int .i64 d.x, .int .i64 d.y, .int .i64 d.z]) (.agg #[.int .i64 e.x, .int .i64 e.y, .int .i64 e.z])).run Try.prog w = .ok (.bool false) w := fun w => by rw [run_eql_dims, h1]
    have HR := Lib.hid (show Yd.same ⟨d, ns, ls⟩ ⟨e, ms, ks⟩ = false by unfold Yd.same; simp only; rw [h1]; rfl)
    clear h1
    (go_enter Try.func59, Try.ntmps59; go_wp2_with (first | ((with_reducible refine (M1.out _ (by (repeat (first | (with_reducible exact Below.refl _ _) | (with_reducible assumption) | (with_reducible refine below_alloc ?_ _) | (with_reducible refine below_drewN ?_ _) | (with_reducible refine Below.drew ?_) | (with_reducible refine below_then ?_ (by with_reducible assumption)) | (with_reducible refine Below.setCell ?_ (by go_size) _))))).mono ?_); rintro e w1 ⟨rfl, hb1⟩; (obtain ⟨hc1, hf1⟩ := bcell hb1; have hz1 := hb1.size; (try simp at hz1); have hB : Below w.heap.size w w1 := (by (repeat (first | (with_reducible exact Below.refl _ _) | (with_reducible assumption) | (with_reducible refine below_alloc ?_ _) | (with_reducible refine below_drewN ?_ _) | (with_reducible refine Below.drew ?_) | (with_reducible refine below_then ?_ (by with_reducible assumption)) | (with_reducible refine Below.setCell ?_ (by go_size) _)))); obtain ⟨hcB, hfB⟩ := bcell hB; (try have z0 : w.heap.size < w1.heap.size := by omega); (try have z1 : w.heap.size + 1 < w1.heap.size := by omega); (try have z2 : w.heap.size + 2 < w1.heap.size := by omega); (try have z3 : w.heap.size + 3 < w1.heap.size := by omega))) | ((with_reducible refine (M2.out _ (by (repeat (first | (with_reducible exact Below.refl _ _) | (with_reducible assumption) | (with_reducible refine below_alloc ?_ _) | (with_reducible refine below_drewN ?_ _) | (with_reducible refine Below.drew ?_) | (with_reducible refine below_then ?_ (by with_reducible assumption)) | (with_reducible refine Below.setCell ?_ (by go_size) _))))).mono ?_); rintro e w1 ⟨rfl, hb1⟩; (obtain ⟨hc1, hf1⟩ := bcell hb1; have hz1 := hb1.size; (try simp at hz1); have hB : Below w.heap.size w w1 := (by (repeat (first | (with_reducible exact Below.refl _ _) | (with_reducible assumption) | (with_reducible refine below_alloc ?_ _) | (with_reducible refine below_drewN ?_ _) | (with_reducible refine Below.drew ?_) | (with_reducible refine below_then ?_ (by with_reducible assumption)) | (with_reducible refine Below.setCell ?_ (by go_size) _)))); obtain ⟨hcB, hfB⟩ := bcell hB; (try have z0 : w.heap.size < w1.heap.size := by omega); (try have z1 : w.heap.size + 1 < w1.heap.size := by omega); (try have z2 : w.heap.size + 2 < w1.heap.size := by omega); (try have z3 : w.heap.size + 3 < w1.heap.size := by omega)))); go_returns; exact ⟨by (first | (rw [HR.out]; done) | (rw [HR.out]; rfl) | (rw [HR.out]; simp; done)), by (repeat (first | (with_reducible exact Below.refl _ _) | (with_reducible assumption) | (with_reducible refine below_alloc ?_ _) | (with_reducible refine below_drewN ?_ _) | (with_reducible refine Below.drew ?_) | (with_reducible refine below_then ?_ (by with_reducible assumption)) | (with_reducible refine Below.setCell ?_ (by go_size) _)))⟩)
end

section
open Go.RowKit Go.Shelf

theorem own_hit {c : List Sl} (hc : calE c = 0) (ow : Int) {a : Int} (h0 : 0 ≤ a) (h1 : a < 1099511627776) : ownB ow a c = (match hitAt c a with | some s => decide (s.o = ow) | none => false) := by
  rw [← hit_own hc ow h0 h1]
  have hE : atE c a = if (hitAt c a).isSome then 0 else 6 := by rw [atE, if_pos hc, if_pos ⟨h0, h1⟩]
  cases hh : hitAt c a with
  | none =>
    rw [show atE c a = 6 by rw [hE, hh]; rfl]
    rfl
  | some s =>
    have e : atE c a = 0 := by rw [hE, hh]; rfl
    rw [show atO c a = s.o by rw [atO, if_pos e, hh]; rfl, e]
    simp
theorem ownE_00 {y : Yd} {a : Int} (h : ownE y a = 0) : y.okB = true ∧ 0 ≤ a ∧ a < 1099511627776 := by
  unfold ownE at h
  cases hok : y.okB with
  | false => rw [hok] at h; cases h
  | true =>
    rw [hok, if_pos rfl] at h
    refine ⟨rfl, ?_⟩
    by_cases hs : 0 ≤ a ∧ a < 1099511627776
    · exact hs
    · rw [okIf_no hs] at h; cases h
/-- Nothing told of any. -/
theorem errTo_false {e : Int} {a : List Nat} {s : Sl} {ns : List (List Sl)} : ∀ {k : Nat} {z : Bool}, errTo e z a s ns k = false → z = false ∧ ∀ i c, i < k → ns[i]? = some c → there a i = true → putE c s ≠ e
  | 0, z, h => ⟨h, fun i c hi => absurd hi (Nat.not_lt_zero _)⟩
  | k + 1, z, h => by
    rw [errTo] at h
    cases ht : there a k with
    | false =>
      rw [ht] at h
      obtain ⟨h1, h2⟩ := errTo_false (k := k) h
      refine ⟨h1, fun i c hi hc hth => ?_⟩
      rcases Nat.lt_or_ge i k with hik | hik
      · exact h2 i c hik hc hth
      · obtain rfl : i = k := by omega
        rw [ht] at hth
        cases hth
    | true =>
      rw [ht, if_pos rfl, Bool.or_eq_false_iff] at h
      obtain ⟨h1, h2⟩ := errTo_false (k := k) h.1
      refine ⟨h1, fun i c hi hc hth => ?_⟩
      rcases Nat.lt_or_ge i k with hik | hik
      · exact h2 i c hik hc hth
      · obtain rfl : i = k := by omega
        have := h.2
        rw [hc] at this
        simpa using this
/-- What a put that may be has found. -/
structure PutOk (y : Yd) (ms ks : List Nat) (s : Sl) : Prop where
  ok : y.okB = true
  m : sChk y.ns.length ms = 0
  k : sChk (3 * (y.ns.length : Int)) ks = 0
  may : s.may
  n0 : ∀ i c, y.ns[i]? = some c → there ms i = true → putE c s = 0
  l0 : ∀ i c, y.ls[i]? = some c → there ks i = true → putE c s = 0
theorem putE_three {c : List Sl} {s : Sl} (h : calE c = 0) (hs : s.may) (h1 : putE c s ≠ 80) (h2 : putE c s ≠ 4) : putE c s = 0 := by
  have e : putE c s = if freeB c s.f s.t then if c.length = 4096 then 4 else 0 else 80 := by unfold putE; rw [if_pos h, if_pos hs]
  rw [e] at h1 h2 ⊢
  by_cases hf : freeB c s.f s.t = true
  · rw [if_pos hf] at h2 ⊢
    by_cases hl : c.length = 4096
    · rw [if_pos hl] at h2; exact absurd rfl h2
    · rw [if_neg hl]
  · rw [if_neg hf] at h1; exact absurd rfl h1
theorem yPut_ok {y : Yd} {ms ks : List Nat} {s : Sl} (h : yPutE y ms ks s = 0) : PutOk y ms ks s := by
  unfold yPutE at h
  cases hok : y.okB with
  | false => rw [hok] at h; cases h
  | true =>
    rw [hok, if_pos rfl] at h
    by_cases c1 : sChk y.ns.length ms = 0
    · rw [if_pos c1] at h
      by_cases c2 : sChk (3 * (y.ns.length : Int)) ks = 0
      · rw [if_pos c2] at h
        by_cases hs : s.may
        · rw [if_pos hs] at h
          cases h8 : yTk 80 y ms ks s with
          | true => rw [h8] at h; cases h
          | false =>
            cases h4 : yTk 4 y ms ks s with
            | true => rw [h8, h4] at h; cases h
            | false =>
              obtain ⟨a1, a2⟩ := errTo_false h8
              obtain ⟨_, a3⟩ := errTo_false a1
              obtain ⟨b1, b2⟩ := errTo_false h4
              obtain ⟨_, b3⟩ := errTo_false b1
              have hall := Yd.ok_all hok
              exact ⟨hok, c1, c2, hs, fun i c hc ht => putE_three (hall.1 c (List.mem_of_getElem? hc)) hs (a3 i c (List.getElem?_eq_some_iff.1 hc).1 hc ht) (b3 i c (List.getElem?_eq_some_iff.1 hc).1 hc ht),
                fun i c hc ht => putE_three (hall.2 c (List.mem_of_getElem? hc)) hs (a2 i c (List.getElem?_eq_some_iff.1 hc).1 hc ht) (b2 i c (List.getElem?_eq_some_iff.1 hc).1 hc ht)⟩
        · rw [if_neg hs] at h; cases h
      · rw [if_neg c2] at h; cases h
    · rw [if_neg c1] at h; cases h
theorem calAll_at {a : List Nat} {s : Sl} {ns : List (List Sl)} (i : Nat) : (calTo a s ns ns.length)[i]? = (ns[i]?).map (pAt a s i) := by
  rw [calTo_at]
  cases hc : ns[i]? with
  | none => rfl
  | some c => rw [Option.map_some, Option.map_some, if_pos (List.getElem?_eq_some_iff.1 hc).1]
/-! ### one list -/
section
variable {a : List Nat} {s : Sl} {ns : List (List Sl)} (h0 : ∀ i c, ns[i]? = some c → there a i = true → putE c s = 0) (hall : ∀ c ∈ ns, calE c = 0)
include h0 hall
theorem pAt_ok {i : Nat} {c : List Sl} (hc : ns[i]? = some c) : calE (pAt a s i c) = 0 := by
  unfold pAt
  cases ht : there a i with
  | false => exact hall c (List.mem_of_getElem? hc)
  | true =>
    have := h0 i c hc ht
    rw [if_pos rfl, putV, if_pos this]
    exact putL_ok this
theorem pAt_own {i : Nat} {c : List Sl} (hc : ns[i]? = some c) {at' : Int} (a0 : 0 ≤ at') (a1 : at' < 1099511627776) (ow : Int) :
    ownB ow at' (pAt a s i c) = (ownB ow at' c || (there a i && (decide (s.f ≤ at' ∧ at' < s.t) && decide (s.o = ow)))) := by
  have hok := pAt_ok h0 hall hc
  have hc0 := hall c (List.mem_of_getElem? hc)
  cases ht : there a i with
  | false =>
    unfold pAt
    rw [ht]
    simp
  | true =>
    have he := h0 i c hc ht
    have hp : pAt a s i c = putL c s := by unfold pAt; rw [ht, if_pos rfl, putV, if_pos he]
    rw [hp] at hok ⊢
    rw [own_hit hok ow a0 a1, own_hit hc0 ow a0 a1]
    by_cases hin : s.f ≤ at' ∧ at' < s.t
    · obtain ⟨h1, h2⟩ := put_At_in he hin
      rw [h1, h2, decide_eq_true hin]
      simp
    · rw [put_At_out he hin, decide_eq_false hin]
      simp
theorem pAt_cut {i : Nat} {c : List Sl} (hc : ns[i]? = some c) : cutV s.o 0 (pAt a s i c) = cutV s.o 0 c := by
  have hok := pAt_ok h0 hall hc
  have hc0 := hall c (List.mem_of_getElem? hc)
  cases ht : there a i with
  | false => unfold pAt; rw [ht]; rfl
  | true =>
    have he := h0 i c hc ht
    have hp : pAt a s i c = putL c s := by unfold pAt; rw [ht, if_pos rfl, putV, if_pos he]
    rw [hp] at hok ⊢
    unfold cutV
    rw [if_pos hok, if_pos hc0, cut_put he]
theorem calAll_ok : ∀ c ∈ calTo a s ns ns.length, calE c = 0 := by
  intro c hc
  obtain ⟨i, hi, rfl⟩ := List.mem_iff_getElem.1 hc
  have h1 := calAll_at (a := a) (s := s) (ns := ns) i
  rw [List.getElem?_eq_getElem hi] at h1
  cases hn : ns[i]? with
  | none => rw [hn] at h1; cases h1
  | some x =>
    rw [hn] at h1
    have := Option.some.inj h1
    rw [this]
    exact pAt_ok h0 hall hn
theorem calAll_cut : (calTo a s ns ns.length).map (cutV s.o 0) = ns.map (cutV s.o 0) := by
  refine List.ext_getElem? fun i => ?_
  rw [List.getElem?_map, List.getElem?_map, calAll_at]
  cases hc : ns[i]? with
  | none => rfl
  | some c => rw [Option.map_some, Option.map_some, Option.map_some, pAt_cut h0 hall hc]
theorem calAll_busy (hm : nMay ns.length) (hk : sChk ns.length a = 0) (hw : W64 a) (hs : s.may) : sChk2 ns.length (whS (fun c => !clearB c s.f s.t) ns) a = 0 ∧ anyNZ (joinIf andW ns.length (whS (fun c => !clearB c s.f s.t) ns) a) = false := by
  have h2 := sChk2_of (whS_chk (fun c => !clearB c s.f s.t) hm) hk
  refine ⟨h2, ?_⟩
  have h3 := and_may h2 (whS_f _ ns) hw
  refine anyNZ_no (joinIf_fit andW_fit (whS_f _ ns) hw) fun i => ?_
  rw [h3.2.2, whS_there _ hm]
  cases hc : ns[i]? with
  | none => unfold hasP; rw [hc]; rfl
  | some c =>
    rw [hasP_some hc]
    cases ht : there a i with
    | false => simp
    | true =>
      have hf := (putE_0 (h0 i c hc ht)).2.2.1
      have := free_clear (calE_ok (hall c (List.mem_of_getElem? hc))).1 (f := s.f) (t := s.t) hs.1.1.2
      rw [← this, hf]
      rfl
theorem calAll_own (hm : nMay ns.length) (hk : sChk ns.length a = 0) (hw : W64 a) {at' : Int} (a0 : 0 ≤ at') (a1 : at' < 1099511627776) (hin : s.f ≤ at' ∧ at' < s.t) :
    sChk2 ns.length (whS (ownB s.o at') ns) a = 0 ∧ joinIf orW ns.length (whS (ownB s.o at') ns) a = whS (ownB s.o at') (calTo a s ns ns.length) := by
  have h2 := sChk2_of (whS_chk (ownB s.o at') hm) hk
  have h3 := or_may h2 (whS_f _ ns) hw
  have hlen : (calTo a s ns ns.length).length = ns.length := calTo_len ..
  refine ⟨h2, sets_ext (by rw [h3.2.1, whS_l, whS_l, hlen]) (joinIf_fit orW_fit (whS_f _ ns) hw) (whS_f _ _) fun i _ => ?_⟩
  rw [h3.2.2, whS_there _ hm, whS_there _ (by rw [hlen]; exact hm)]
  unfold hasP
  rw [calAll_at]
  cases hc : ns[i]? with
  | none =>
    simp only [Option.map_none, Bool.false_or]
    refine topOut hk hw ?_
    have := List.getElem?_eq_none_iff.1 hc
    omega
  | some c =>
    simp only [Option.map_some]
    rw [pAt_own h0 hall hc a0 a1, decide_eq_true hin]
    simp
theorem calAll_same {at' : Int} (a0 : 0 ≤ at') (a1 : at' < 1099511627776) (ow : Int) (hne : ¬ ((s.f ≤ at' ∧ at' < s.t) ∧ s.o = ow)) : whS (ownB ow at') (calTo a s ns ns.length) = whS (ownB ow at') ns := by
  have hlen : (calTo a s ns ns.length).length = ns.length := calTo_len ..
  have key : ∀ k, whTo (ownB ow at') (calTo a s ns ns.length) k = whTo (ownB ow at') ns k := by
    intro k
    induction k with
    | zero => rfl
    | succ k ih =>
      rw [whTo, whTo, ih, calAll_at]
      cases hc : ns[k]? with
      | none => rfl
      | some c =>
        simp only [Option.map_some]
        rw [pAt_own h0 hall hc a0 a1]
        have : (there a k && (decide (s.f ≤ at' ∧ at' < s.t) && decide (s.o = ow))) = false := by
          by_cases h1 : s.f ≤ at' ∧ at' < s.t
          · by_cases h2 : s.o = ow
            · exact absurd ⟨h1, h2⟩ hne
            · rw [decide_eq_false h2]; simp
          · rw [decide_eq_false h1]; simp
        rw [this, Bool.or_false]
  unfold whS
  rw [hlen, key]
end
end
end Go.Proofs.Ytfikgjcmnooglaa
