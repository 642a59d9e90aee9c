/- PLACE: what is taken; the sets of a place. -/
import Derived.Test.YtofoenlhbmammaaGreatQ0PosNF11
import Derived.Test.YtofoenlhbmammaaGreatQ0PlAlongF11
import Derived.Test.YtofoenlhbmammaaGreatQ0SetTwoF11
import Derived.Test.YtofoenlhbmammaaGreatQ10F11
import Derived.Test.YtofoenlhbmammaaGreatQ12F11
set_option linter.unusedVariables false
set_option linter.unusedSimpArgs false
namespace Go.Proofs.YtofoenlhbmammaaGreat

section
section
open Go.RowKit Go.Shelf

theorem keep_row {w w' : World} {Bl B : Nat} {v v' vM : Value} {n : Nat} {xs : List Value} (hM : w.ownsRow B 3 1 vM n xs) (hB : Bl < B) (hs : ∀ g, vM.ownBlock = some g → v.ownBlock ≠ some g)
    (k1 : ∀ b, b < w.heap.size → b ≠ Bl → v.ownBlock ≠ some b → w'.heap[b]? = w.heap[b]?) (k2 : ∀ g, v'.ownBlock = some g → v.ownBlock = some g ∨ w.heap.size ≤ g) :
    w'.ownsRow B 3 1 vM n xs ∧ ∀ g, vM.ownBlock = some g → v'.ownBlock ≠ some g := by
  refine ⟨⟨hM.1, ?_⟩, fun g hg he => ?_⟩
  · rcases hM.2 with e1 | ⟨g1, c1, cur1, e1, hg1, hh, r1⟩
    · exact .inl e1
    · exact .inr ⟨g1, c1, cur1, e1, hg1, (k1 g1 (Array.getElem?_eq_some_iff.1 hh).1 (by omega) (hs g1 (by rw [e1]; rfl))).trans hh, r1⟩
  · rcases k2 g he with h | h
    · exact hs g hg h
    · have := own_lt hM hg
      omega
/-- Two new lists. -/
def RTK (w : World) (a b : List Int) : Ending → World → Prop := fun e w' =>
  ∃ v u, e = .returned (.tuple #[v, u]) ∧ w'.ownsRow w.heap.size 3 1 v a.length (ic' a) ∧ w'.ownsRow w.heap.size 3 1 u b.length (ic' b) ∧ Below w.heap.size w w'
theorem row_mono {W : World} {B B' : Nat} {e : TypeId} {v : Value} {n : Nat} {xs : List Value} (h : W.ownsRow B e 1 v n xs) (hB : B' ≤ B) : W.ownsRow B' e 1 v n xs := by
  refine ⟨h.1, ?_⟩
  rcases h.2 with e1 | ⟨g1, c1, cur1, e1, hg1, r1⟩
  · exact .inl e1
  · exact .inr ⟨g1, c1, cur1, e1, by omega, r1⟩
theorem cabs_len (d : V3) (p : Pl) (k : Nat) (hd : d.may) : (cabs d p k).length ≤ 65536 := by
  have h1 := cabsOf_len d p k ((p.b.thin k).all d)
  have h2 := Bx.all_len' d (p.b.thin k) hd
  unfold cabs
  omega
set_option maxRecDepth 100000 in set_option maxHeartbeats 4000000 in
theorem place_taken (d : V3) (p : Pl) (w : World) (hd : d.may) (hb : p.b.may d) : Calls Tryz.prog 62 #[.agg #[.int .i64 d.x, .int .i64 d.y, .int .i64 d.z], .agg #[.int .i64 p.b.b.x, .int .i64 p.b.b.y, .int .i64 p.b.b.z, .int .i64 p.b.s.x, .int .i64 p.b.s.y, .int .i64 p.b.s.z, .bool p.t0, .bool p.t1, .bool p.t2]] w (RTK w (p.b.all d) (cabsV d p)) := by
  have HN := Lib.hid (fun W => box_Nodes_ok d p.b W hd hb)
  have HD := Lib.hid hd
  have HB := Lib.hid hb
  have L0 := cabs_len d p 0 hd
  have L1 := cabs_len d p 1 hd
  have L2 := cabs_len d p 2 hd
  have HQ := Lib.hid (show cabsV d p = ([] ++ cabs d p 0 ++ cabs d p 1) ++ cabs d p 2 from rfl)
  have eg : ∀ args w, (callFunc 93 args).run Tryz.prog w = .ok (.enter 93 args) w := enters_of Tryz.func93 (by kernel_rfl) rfl
  generalize p.b.all d = M at *
  clear hd hb
  go_enter Tryz.func62, Tryz.ntmps62
  go_wp2_with fail
  refine (HN.out _).mono ?_
  rintro e w2 ⟨vM, rfl, oM, hb2⟩
  have B0 := (((Blk.new w 23 #[.int .i64 d.x, .int .i64 d.y, .int .i64 d.z]).alloc (.cells #[.int .i64 p.b.b.x, .int .i64 p.b.b.y, .int .i64 p.b.b.z, .int .i64 p.b.s.x, .int .i64 p.b.s.y, .int .i64 p.b.s.z, .bool p.t0, .bool p.t1, .bool p.t2] 31)).alloc (.cells #[.slice none 0 0] 83)).below hb2
  have P0 := ((Blk.new (w.alloc (.cells #[.int .i64 d.x, .int .i64 d.y, .int .i64 d.z] 23)) 31 #[.int .i64 p.b.b.x, .int .i64 p.b.b.y, .int .i64 p.b.b.z, .int .i64 p.b.s.x, .int .i64 p.b.s.y, .int .i64 p.b.s.z, .bool p.t0, .bool p.t1, .bool p.t2]).alloc (.cells #[.slice none 0 0] 83)).below hb2
  have A0 := (Blk.new ((w.alloc (.cells #[.int .i64 d.x, .int .i64 d.y, .int .i64 d.z] 23)).alloc (.cells #[.int .i64 p.b.b.x, .int .i64 p.b.b.y, .int .i64 p.b.b.z, .int .i64 p.b.s.x, .int .i64 p.b.s.y, .int .i64 p.b.s.z, .bool p.t0, .bool p.t1, .bool p.t2] 31)) 83 #[.slice none 0 0]).below hb2
  have HB2 := Lib.hid (below_then (show Below w.heap.size w (((w.alloc (.cells #[.int .i64 d.x, .int .i64 d.y, .int .i64 d.z] 23)).alloc (.cells #[.int .i64 p.b.b.x, .int .i64 p.b.b.y, .int .i64 p.b.b.z, .int .i64 p.b.s.x, .int .i64 p.b.s.y, .int .i64 p.b.s.z, .bool p.t0, .bool p.t1, .bool p.t2] 31)).alloc (.cells #[.slice none 0 0] 83)) by (repeat (first | (with_reducible exact Below.refl _ _) | (with_reducible assumption) | (with_reducible refine below_alloc ?_ _) | (with_reducible refine below_drewN ?_ _) | (with_reducible refine Below.drew ?_) | (with_reducible refine below_then ?_ (by with_reducible assumption)) | (with_reducible refine Below.setCell ?_ (by go_size) _)))) hb2)
  simp only [World.size_alloc] at P0 A0 oM
  have HA0 := Lib.hid (show AtL w2 (w.heap.size + 1 + 1) (.slice none 0 0) [] from ⟨A0, World.ownsRow_nil _ _ _ _⟩)
  have HP0 := Lib.hid P0
  have HD0 := Lib.hid B0
  have HM0 := Lib.hid (show w2.ownsRow (w.heap.size + 1 + 1 + 1) 3 1 vM M.length (ic' M) from oM)
  have z2 := A0.lt
  clear B0 P0 A0 oM hb2
  go_wp2_with fail
  refine wp_loop_rounds 4 ?_
  rw [rounds_succ]
  go_wp2_with fail
  refine (place_along0 d p (w.heap.size + 1) w.heap.size (w.heap.size + 1 + 1) _ [] w2 HD.out HB.out HP0.out HD0.out HA0.out (by omega) (by omega) (by simp)).mono ?_
  rintro e w3 ⟨⟨u3, rfl⟩, hb3, ka3, v3, ha3, kb3⟩
  have R3 := keep_row HM0.out (by omega) (fun g _ h => by cases h) ka3 kb3
  have HA3 := Lib.hid ha3
  have HP3 := Lib.hid (HP0.out.keep hb3 (by omega))
  have HD3 := Lib.hid (HD0.out.keep hb3 (by omega))
  have HB3 := Lib.hid (HB2.out.trans (hb3.mono (by omega)))
  have HM3 := Lib.hid R3
  have z3 := ha3.blk.lt
  clear hb3 ka3 ha3 kb3 R3 HA0 HP0 HD0 HM0
  go_wp2_with fail
  rw [rounds_succ]
  go_wp2_with fail
  refine (place_along1 d p (w.heap.size + 1) w.heap.size (w.heap.size + 1 + 1) _ _ w3 HD.out HB.out HP3.out HD3.out HA3.out (by omega) (by omega) (by simp; omega)).mono ?_
  rintro e w4 ⟨⟨u4, rfl⟩, hb4, ka4, v4, ha4, kb4⟩
  have R4 := keep_row HM3.out.1 (by omega) HM3.out.2 ka4 kb4
  have HA4 := Lib.hid ha4
  have HP4 := Lib.hid (HP3.out.keep hb4 (by omega))
  have HD4 := Lib.hid (HD3.out.keep hb4 (by omega))
  have HB4 := Lib.hid (HB3.out.trans (hb4.mono (by omega)))
  have HM4 := Lib.hid R4
  have z4 := ha4.blk.lt
  clear hb4 ka4 ha4 kb4 R4 HA3 HP3 HD3 HM3
  go_wp2_with fail
  rw [rounds_succ]
  go_wp2_with fail
  refine (place_along2 d p (w.heap.size + 1) w.heap.size (w.heap.size + 1 + 1) _ _ w4 HD.out HB.out HP4.out HD4.out HA4.out (by omega) (by omega) (by simp; omega)).mono ?_
  rintro e w5 ⟨⟨u5, rfl⟩, hb5, ka5, v5, ha5, kb5⟩
  have R5 := keep_row HM4.out.1 (by omega) HM4.out.2 ka5 kb5
  have HB5 := Lib.hid (HB4.out.trans (hb5.mono (by omega)))
  have HM5 := Lib.hid R5.1
  have r0 := ha5.blk.cell 0 _ rfl
  have HR5 := Lib.hid ha5.row
  clear hb5 ka5 ha5 kb5 R5 HA4 HP4 HD4 HM4
  go_wp2_with fail
  rw [rounds_succ]
  go_wp2_with fail
  refine bodyPost_ret (by simp [results, Tryz.results62, go_sem, r0]; try rfl) rfl ?_
  exact ⟨_, _, rfl, row_mono HM5.out (by omega), by rw [HQ.out]; exact row_mono HR5.out (by omega), HB5.out⟩
end

section
open Go.RowKit Go.Shelf

theorem ofSet_fit' (n : Int) (l : List Int) : W64 (ofSet n l) := by
  unfold ofSet; split
  · exact bitsOf_fit _ _
  · intro x hx; simp at hx
theorem ofErr_may' {n : Int} {l : List Int} (h : ofErr n l = 0) : nMay n ∧ l.length ≤ 65536 ∧ inR n l = true := by
  unfold ofErr at h
  by_cases hn : nMay n
  · rw [if_pos hn] at h
    by_cases hl : 65536 < l.length
    · rw [if_pos hl] at h; omega
    · rw [if_neg hl] at h
      by_cases hi : inR n l = true
      · exact ⟨hn, by omega, hi⟩
      · rw [if_neg hi] at h; omega
  · rw [if_neg hn] at h; omega
theorem ofSet_len' (n : Int) (l : List Int) : (ofSet n l).length ≤ 192 := by
  unfold ofSet; split
  · next h => rw [bitsOf_len]; exact (nWords_pos (ofErr_may' h).1).2
  · simp
def midsV (d : V3) (p : Pl) : List Nat := if plChk d p = 0 then ofSet d.n (p.b.all d) else []
def linksV (d : V3) (p : Pl) : List Nat := if plChk d p = 0 then ofSet (3 * d.n) (cabsV d p) else []
theorem plChk_0 {d : V3} {p : Pl} (h : plChk d p = 0) : d.may ∧ p.b.may d ∧ p.odd = false ∧ p.b.can d = p.b := by
  unfold plChk at h
  by_cases h1 : chk d p.b = 0
  · rw [if_pos h1] at h
    obtain ⟨hd, hb⟩ := chk_may h1
    cases ho : p.odd with
    | true => rw [ho] at h; simp at h
    | false =>
      rw [ho] at h
      by_cases h2 : p.b.can d = p.b
      · exact ⟨hd, hb, rfl, h2⟩
      · simp [h2] at h
  · rw [if_neg h1] at h
    exact absurd h h1
theorem midsV_fit (d : V3) (p : Pl) : W64 (midsV d p) := by
  unfold midsV; split
  · exact ofSet_fit' _ _
  · intro x hx; simp at hx
theorem linksV_fit (d : V3) (p : Pl) : W64 (linksV d p) := by
  unfold linksV; split
  · exact ofSet_fit' _ _
  · intro x hx; simp at hx
theorem midsV_len (d : V3) (p : Pl) : (midsV d p).length ≤ 192 := by
  unfold midsV; split
  · exact ofSet_len' _ _
  · simp
theorem linksV_len (d : V3) (p : Pl) : (linksV d p).length ≤ 192 := by
  unfold linksV; split
  · exact ofSet_len' _ _
  · simp
/-- Two new sets, and an error. -/
def RPS (w : World) (a b : List Nat) (x : Int) : Ending → World → Prop := fun e w' =>
  ∃ v u, e = .returned (.tuple #[v, u, .int .i64 x]) ∧ w'.ownsRow w.heap.size 56 1 v a.length (wcells a) ∧ w'.ownsRow w.heap.size 56 1 u b.length (wcells b) ∧ Below w.heap.size w w'
set_option maxRecDepth 100000 in set_option maxHeartbeats 4000000 in
theorem place_Sets (d : V3) (p : Pl) (w : World) : Calls Tryz.prog 31 #[.agg #[.int .i64 d.x, .int .i64 d.y, .int .i64 d.z], .agg #[.int .i64 p.b.b.x, .int .i64 p.b.b.y, .int .i64 p.b.b.z, .int .i64 p.b.s.x, .int .i64 p.b.s.y, .int .i64 p.b.s.z, .bool p.t0, .bool p.t1, .bool p.t2]] w (RPS w (midsV d p) (linksV d p) (plChk d p)) := by
  have HC := Lib.hid (fun W => place_Check d p W)
  by_cases hz : plChk d p = 0
  · obtain ⟨hd, hb, _, _⟩ := plChk_0 hz
    have HM := Lib.hid (show midsV d p = ofSet d.n (p.b.all d) from if_pos hz)
    have HL := Lib.hid (show linksV d p = ofSet (3 * d.n) (cabsV d p) from if_pos hz)
    have HN := Lib.hid (fun W => by have := pos_Many d W; rw [V3.many_ok hd, V3.err_ok hd] at this; exact this)
    have HT := Lib.hid (fun W => place_taken d p W hd hb)
    have hnn := V3.n_le hd
    have q1 := Bx.all_len' d p.b hd
    have q2 : (cabsV d p).length ≤ 200000 := by
      have := cabs_len d p 0 hd; have := cabs_len d p 1 hd; have := cabs_len d p 2 hd
      unfold cabsV; rw [List.length_append, List.length_append]; omega
    rw [hz] at HC ⊢
    clear hz hd hb
    generalize d.n = n at *
    generalize p.b.all d = M at *
    generalize cabsV d p = C at *
    go_enter Tryz.func31, Tryz.ntmps31
    go_wp2_with fail
    refine (HC.out _).mono ?_
    rintro e w1 ⟨rfl, hb1⟩
    have BD := Lib.hid (((Blk.new w 23 #[.int .i64 d.x, .int .i64 d.y, .int .i64 d.z]).alloc (.cells #[.int .i64 p.b.b.x, .int .i64 p.b.b.y, .int .i64 p.b.b.z, .int .i64 p.b.s.x, .int .i64 p.b.s.y, .int .i64 p.b.s.z, .bool p.t0, .bool p.t1, .bool p.t2] 31)).below hb1)
    have BP := Lib.hid ((by have := (Blk.new (w.alloc (.cells #[.int .i64 d.x, .int .i64 d.y, .int .i64 d.z] 23)) 31 #[.int .i64 p.b.b.x, .int .i64 p.b.b.y, .int .i64 p.b.b.z, .int .i64 p.b.s.x, .int .i64 p.b.s.y, .int .i64 p.b.s.z, .bool p.t0, .bool p.t1, .bool p.t2]).below hb1; rwa [World.size_alloc] at this : Blk w1 (w.heap.size + 1) 31 #[.int .i64 p.b.b.x, .int .i64 p.b.b.y, .int .i64 p.b.b.z, .int .i64 p.b.s.x, .int .i64 p.b.s.y, .int .i64 p.b.s.z, .bool p.t0, .bool p.t1, .bool p.t2]))
    have HB := Lib.hid (below_then (show Below w.heap.size w ((w.alloc (.cells #[.int .i64 d.x, .int .i64 d.y, .int .i64 d.z] 23)).alloc (.cells #[.int .i64 p.b.b.x, .int .i64 p.b.b.y, .int .i64 p.b.b.z, .int .i64 p.b.s.x, .int .i64 p.b.s.y, .int .i64 p.b.s.z, .bool p.t0, .bool p.t1, .bool p.t2] 31)) by (repeat (first | (with_reducible exact Below.refl _ _) | (with_reducible assumption) | (with_reducible refine below_alloc ?_ _) | (with_reducible refine below_drewN ?_ _) | (with_reducible refine Below.drew ?_) | (with_reducible refine below_then ?_ (by with_reducible assumption)) | (with_reducible refine Below.setCell ?_ (by go_size) _)))) hb1)
    clear hb1
    (have d0 := (BD.out).cell 0 _ rfl; have d1 := (BD.out).cell 1 _ rfl; have d2 := (BD.out).cell 2 _ rfl)
    go_wp2_with fail
    refine (HN.out _).mono ?_
    rintro e w2 ⟨rfl, hb2⟩
    have BD2 := Lib.hid (BD.out.below hb2)
    have BP2 := Lib.hid (BP.out.below hb2)
    have HB2 := Lib.hid (below_then HB.out hb2)
    clear hb2 d0 d1 d2 BD BP
    (have d0 := (BD2.out).cell 0 _ rfl; have d1 := (BD2.out).cell 1 _ rfl; have d2 := (BD2.out).cell 2 _ rfl)
    (have p0 := (BP2.out).cell 0 _ rfl; have p1 := (BP2.out).cell 1 _ rfl; have p2 := (BP2.out).cell 2 _ rfl; have p3 := (BP2.out).cell 3 _ rfl; have p4 := (BP2.out).cell 4 _ rfl; have p5 := (BP2.out).cell 5 _ rfl; have p6 := (BP2.out).cell 6 _ rfl; have p7 := (BP2.out).cell 7 _ rfl; have p8 := (BP2.out).cell 8 _ rfl)
    go_wp2_with fail
    refine (HT.out _).mono ?_
    rintro e w3 ⟨v3, u3, rfl, o3, r3, hb3⟩
    obtain ⟨ba, ca, rfl, la, _⟩ := list_of_own o3 (by omega)
    obtain ⟨bl, cl, rfl, ll, _⟩ := list_of_own r3 (by omega)
    have HB3 := Lib.hid (below_then HB2.out hb3)
    have LL := Lib.hid ll
    clear hb3 d0 d1 d2 p0 p1 p2 p3 p4 p5 p6 p7 p8 o3 r3 ll BD2 BP2
    go_wp2_with fail
    refine (set_Of n ba ca M _ la).mono ?_
    rintro e w4 ⟨v4, rfl, o4, hb4⟩
    have HB4 := Lib.hid (below_then HB3.out hb4)
    have LL4 := Lib.hid (LL.out.keep hb4)
    have O4 := Lib.hid (row_mono o4 HB3.out.size)
    clear hb4 la o4
    go_wp2_with fail
    refine (set_Of (3 * n) bl cl C _ LL4.out).mono ?_
    rintro e w5 ⟨v5, rfl, o5, hb5⟩
    have HB5 := Lib.hid (below_then HB4.out hb5)
    have O45 := Lib.hid (own_keep O4.out hb5)
    have O5 := Lib.hid (row_mono o5 HB4.out.size)
    clear hb5 o5
    go_wp2_with fail
    go_returns
    exact ⟨_, _, rfl, by rw [HM.out]; exact O45.out, by rw [HL.out]; exact O5.out, HB5.out⟩
  · have HM := Lib.hid (show midsV d p = [] from if_neg hz)
    have HL := Lib.hid (show linksV d p = [] from if_neg hz)
    have hy : (plChk d p != 0) = true := by simpa using hz
    clear hz
    go_enter Tryz.func31, Tryz.ntmps31
    go_wp2_with ((with_reducible refine (HC.out _).mono ?_); rintro e w1 ⟨rfl, hb1⟩; (obtain ⟨hc1, hf1⟩ := bcell hb1; have hz1 := hb1.size; (try simp at hz1); have hB : Below w.heap.size w w1 := (by (repeat (first | (with_reducible exact Below.refl _ _) | (with_reducible assumption) | (with_reducible refine below_alloc ?_ _) | (with_reducible refine below_drewN ?_ _) | (with_reducible refine Below.drew ?_) | (with_reducible refine below_then ?_ (by with_reducible assumption)) | (with_reducible refine Below.setCell ?_ (by go_size) _)))); obtain ⟨hcB, hfB⟩ := bcell hB; (try have z0 : w.heap.size < w1.heap.size := by omega); (try have z1 : w.heap.size + 1 < w1.heap.size := by omega); (try have z2 : w.heap.size + 2 < w1.heap.size := by omega); (try have z3 : w.heap.size + 3 < w1.heap.size := by omega)))
    all_goals
      go_returns
      exact ⟨_, _, rfl, by rw [HM.out]; exact World.ownsRow_nil _ _ _ _, by rw [HL.out]; exact World.ownsRow_nil _ _ _ _, by (repeat (first | (with_reducible exact Below.refl _ _) | (with_reducible assumption) | (with_reducible refine below_alloc ?_ _) | (with_reducible refine below_drewN ?_ _) | (with_reducible refine Below.drew ?_) | (with_reducible refine below_then ?_ (by with_reducible assumption)) | (with_reducible refine Below.setCell ?_ (by go_size) _)))⟩
end
end
end Go.Proofs.YtofoenlhbmammaaGreat
