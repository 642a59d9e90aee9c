/- BOXES: those struck of which a closure says so; GROW: those that lie in no other one: the code's. -/
import Derived.Test.YtofoenlhbmammaaQ0GrowDG13
import Derived.Test.YtofoenlhbmammaaQ0GrowGG13
set_option linter.unusedVariables false
set_option linter.unusedSimpArgs false
namespace Go.Proofs.Ytofoenlhbmammaa

section
open Go.RowKit Go.Shelf

theorem blk_at {w : World} {G : Nat} {t : TypeId} {cs : Array Value} (h : Blk w G t cs) {k : Nat} (hk : k < cs.size) : ∃ v, w.cell? ⟨G, k, none⟩ = some v := ⟨cs[k], h.cell k _ (by simp [hk])⟩
theorem six_of {w : World} {G o : Nat} {t : TypeId} {cs : Array Value} {x : Bx} (h : Blk w G t cs) (hx : ∀ t, t < 6 → cs[o + t]? = x.cells[t]?) : BxO w G o x :=
  ⟨h.cell _ _ (hx 0 (by omega)), h.cell _ _ (hx 1 (by omega)), h.cell _ _ (hx 2 (by omega)), h.cell _ _ (hx 3 (by omega)), h.cell _ _ (hx 4 (by omega)), h.cell _ _ (hx 5 (by omega)), h.lt⟩
theorem own_blk {w : World} {B G cap n : Nat} {cs : Array Value} {xs : List Value} (h : Blk w G 27 cs) (hB : B ≤ G) (hn : n ≤ cap) (hc : cap ≤ maxLen) (hs : cs.size = cap * 6) (ht : cs.toList.take (n * 6) = xs) (hx : xs.length = n * 6) : w.ownsRow B 27 6 (.slice (some ⟨G, 0, none⟩) n cap) n xs :=
  ⟨hx, .inr ⟨G, cap, cs, rfl, hB, h, hn, hc, hs, ht⟩⟩
/-- A block with six cells set. -/
def World.set6 (w : World) (G o : Nat) (x : Bx) : World := (((((w.setCell ⟨G, o, none⟩ (.int .i64 x.b.x)).setCell ⟨G, o + 1, none⟩ (.int .i64 x.b.y)).setCell ⟨G, o + 2, none⟩ (.int .i64 x.b.z)).setCell ⟨G, o + 3, none⟩ (.int .i64 x.s.x)).setCell ⟨G, o + 4, none⟩ (.int .i64 x.s.y)).setCell ⟨G, o + 5, none⟩ (.int .i64 x.s.z)
theorem blk_set6 {w : World} {G : Nat} {t : TypeId} {cs : Array Value} (h : Blk w G t cs) (o : Nat) (x : Bx) : Blk (World.set6 w G o x) G t (set6 cs o x) :=
  (((((h.set o (.int .i64 x.b.x)).set (o + 1) (.int .i64 x.b.y)).set (o + 2) (.int .i64 x.b.z)).set (o + 3) (.int .i64 x.s.x)).set (o + 4) (.int .i64 x.s.y)).set (o + 5) (.int .i64 x.s.z)
theorem below_set6 {B G : Nat} {w w2 : World} (h : Below B w w2) (hG : B ≤ G) (o : Nat) (x : Bx) : Below B w (World.set6 w2 G o x) :=
  (((((h.setCell (p := ⟨G, o, none⟩) hG _).setCell (p := ⟨G, o + 1, none⟩) hG _).setCell (p := ⟨G, o + 2, none⟩) hG _).setCell (p := ⟨G, o + 3, none⟩) hG _).setCell (p := ⟨G, o + 4, none⟩) hG _).setCell (p := ⟨G, o + 5, none⟩) hG _
set_option maxRecDepth 100000 in set_option maxHeartbeats 4000000 in
theorem bxs_delete (g : Nat) (lb : Array Value) (p : Bx → Bool) (B : Nat) (v : Value) (l : List Bx) (w : World) (ho : w.ownsRow B 27 6 v l.length (bxc l)) (hBw : B ≤ w.heap.size) (hl : l.length ≤ 100000) (eg : ∀ args w, (callFunc g args).run Try.prog w = .ok (.enter g args) w)
    (hf : ∀ x ∈ l, ∀ W, Below B w W → Calls Try.prog g (#[.agg #[.int .i64 x.b.x, .int .i64 x.b.y, .int .i64 x.b.z, .int .i64 x.s.x, .int .i64 x.s.y, .int .i64 x.s.z]] ++ lb) W (RB W (.bool (p x)))) :
    Calls Try.prog 36 #[v, .func (.func g) #[] lb] w fun e w' => ∃ u, e = .returned u ∧ w'.ownsRow B 27 6 u (l.filter (fun x => !p x)).length (bxc (l.filter (fun x => !p x))) ∧ Below B w w' := by
  obtain ⟨base, cap0, hv, rd, _⟩ := own_rd ho
  have HI := Lib.hid (bxs_index g lb p base cap0 l w ⟨rd, hl⟩ eg (fun x hx W hW => hf x hx W (hW.mono hBw)))
  rw [← hv] at HI
  rcases firstOf_cases p l with ⟨h1, h2⟩ | ⟨k0, hk0, h1, hp0, h2⟩
  · rw [h1] at HI
    rw [h2]
    have HO := Lib.hid ho
    clear ho rd hf hv h1 h2
    go_enter Try.func36, Try.ntmps36
    go_wp2_with fail
    refine HI.out.mono ?_
    rintro e w1 ⟨rfl, hb1⟩
    go_wp2_with fail
    go_returns
    exact ⟨_, rfl, own_keep HO.out hb1, hb1.mono hBw⟩
  · rw [h1] at HI
    have hne : ((k0 : Int) == -1) = false := beq_eq_false_iff_ne.2 (by omega)
    obtain ⟨G, cap, cur, rfl, hBG, hblk, hncap, hcm, hcs, htk⟩ : ∃ G cap cur, v = .slice (some ⟨G, 0, none⟩) l.length cap ∧ B ≤ G ∧ Blk w G 27 cur ∧ l.length ≤ cap ∧ cap ≤ maxLen ∧ cur.size = cap * 6 ∧ cur.toList.take (l.length * 6) = bxc l := by
      rcases ho.2 with ⟨_, h0⟩ | h
      · omega
      · exact h
    have hcell : ∀ k, (h : k < l.length) → ∀ t, t < 6 → cur[k * 6 + t]? = l[k].cells[t]? := fun k h t ht => by
      have h3 := bxc_at h t ht
      rw [← htk, List.getElem?_take_of_lt (by omega), Array.getElem?_toList] at h3
      exact h3
    have hst : Struck p l cap k0 (k0 + 1) cur := by
      have hf1 : (l.take (k0 + 1)).filter (fun x => !p x) = l.take k0 := by rw [filter_take_succ hk0, h2, hp0]; simp
      refine ⟨hcs, by rw [hf1, List.length_take]; omega, by omega, ?_, fun k _ hk t ht => hcell k hk t ht⟩
      rw [hf1]
      have h3 := congrArg (List.take (k0 * 6)) htk
      rw [List.take_take, Nat.min_eq_left (by omega)] at h3
      rw [h3]
      have h4 : bxc l = bxc (l.take k0) ++ bxc (l.drop k0) := by rw [← bxc_app, List.take_append_drop]
      rw [h4, List.take_append_of_le_length (by rw [bxc_len, List.length_take]; omega), List.take_of_length_le (by rw [bxc_len, List.length_take]; omega)]
    have HS := Lib.hid hst
    have HB := Lib.hid hblk
    have HF := Lib.hid hf
    clear ho rd hv h1 h2 hp0 hcell hst hblk htk hcs hf
    have hmx : cap ≤ 9223372036854775807 := by unfold maxLen at hcm; omega
    go_enter Try.func36, Try.ntmps36
    go_wp2_with fail
    refine HI.out.mono ?_
    rintro e w1 ⟨rfl, hb1⟩
    have HB1 := Lib.hid (HB.out.below hb1)
    have HW1 := Lib.hid (hb1.mono hBw)
    clear hb1 HB HI
    go_wp2_with fail
    go_loopw [5, 6] (fun a b wr => ∃ (i j : Nat) (cs : Array Value), a = .int .i64 i ∧ b = .int .i64 j ∧ j ≤ l.length ∧ Struck p l cap i j cs ∧ Blk wr G 27 cs ∧ Below B w wr) (fun _ b _ => l.length - (intOf b).toNat)
    case atStart => exact ⟨k0, k0 + 1, cur, rfl, by go_num, by omega, HS.out, HB1.out, HW1.out⟩
    case round =>
      clear HS HB1 HW1
      obtain ⟨i, j, cs, rfl, rfl, hj, hs, hblk, hbe⟩ := hrel
      have hij := hs.lt
      have hsz := hs.size
      by_cases hlt : j < l.length
      · have hcj := six_of hblk (hs.high j (Nat.le_refl _) hlt)
        obtain ⟨c0, c1, c2, c3, c4, c5, hgl⟩ := hcj
        have hA := Lib.hid (HF.out l[j] (List.getElem_mem hlt))
        have hkeep := Lib.hid (fun h => hs.keep hlt hncap h)
        have hskip := Lib.hid (fun h => hs.skip hlt h)
        have HBe := Lib.hid hbe
        have HBl := Lib.hid hblk
        obtain ⟨x, hx⟩ : ∃ x, x = l[j] := ⟨_, rfl⟩
        rw [← hx] at c0 c1 c2 c3 c4 c5 hA hkeep hskip
        clear hx hs hbe hblk
        have hzb := HBe.out.size
        cases hp : p x with
        | true =>
          rw [hp] at hA
          have HN := Lib.hid (hskip.out hp)
          clear hp hkeep hskip
          go_wp2_with fail
          refine (hA.out _ ((HBe.out).alloc (by omega) _)).mono ?_
          rintro e w2 ⟨rfl, hb2⟩
          have hB2 := (HBl.out.alloc (.cells #[.int .i64 x.b.x, .int .i64 x.b.y, .int .i64 x.b.z, .int .i64 x.s.x, .int .i64 x.s.y, .int .i64 x.s.z] 27)).below hb2
          have hE2 : Below B w w2 := (HBe.out.alloc (by omega) (.cells #[.int .i64 x.b.x, .int .i64 x.b.y, .int .i64 x.b.z, .int .i64 x.s.x, .int .i64 x.s.y, .int .i64 x.s.z] 27)).trans (hb2.mono (by simp; omega))
          have HB2 := Lib.hid hB2
          have HE2 := Lib.hid hE2
          clear hb2 c0 c1 c2 c3 c4 c5 hB2 hE2 hA
          go_wp2_with fail
          go_roundw
          case rel => exact ⟨i, j + 1, cs, rfl, by go_num, by omega, HN.out, HB2.out, HE2.out⟩
          case measure => (simp [intOf] <;> omega)
        | false =>
          rw [hp] at hA
          have HN := Lib.hid (hkeep.out hp)
          clear hp hkeep hskip
          go_wp2_with fail
          refine (hA.out _ ((HBe.out).alloc (by omega) _)).mono ?_
          rintro e w2 ⟨rfl, hb2⟩
          have hB2 := (HBl.out.alloc (.cells #[.int .i64 x.b.x, .int .i64 x.b.y, .int .i64 x.b.z, .int .i64 x.s.x, .int .i64 x.s.y, .int .i64 x.s.z] 27)).below hb2
          have hE2 : Below B w w2 := (HBe.out.alloc (by omega) (.cells #[.int .i64 x.b.x, .int .i64 x.b.y, .int .i64 x.b.z, .int .i64 x.s.x, .int .i64 x.s.y, .int .i64 x.s.z] 27)).trans (hb2.mono (by simp; omega))
          have hX := (Blk.new wr 27 #[.int .i64 x.b.x, .int .i64 x.b.y, .int .i64 x.b.z, .int .i64 x.s.x, .int .i64 x.s.y, .int .i64 x.s.z]).below hb2
          have x0 := hX.cell 0 _ rfl
          have x1 := hX.cell 1 _ rfl
          have x2 := hX.cell 2 _ rfl
          have x3 := hX.cell 3 _ rfl
          have x4 := hX.cell 4 _ rfl
          have x5 := hX.cell 5 _ rfl
          obtain ⟨o0, q0⟩ := blk_at hB2 (k := i * 6) (by omega)
          obtain ⟨o1, q1⟩ := blk_at hB2 (k := i * 6 + 1) (by omega)
          obtain ⟨o2, q2⟩ := blk_at hB2 (k := i * 6 + 2) (by omega)
          obtain ⟨o3, q3⟩ := blk_at hB2 (k := i * 6 + 3) (by omega)
          obtain ⟨o4, q4⟩ := blk_at hB2 (k := i * 6 + 4) (by omega)
          obtain ⟨o5, q5⟩ := blk_at hB2 (k := i * 6 + 5) (by omega)
          have f0 := hB2.frozen (i * 6)
          have f1 := hB2.frozen (i * 6 + 1)
          have f2 := hB2.frozen (i * 6 + 2)
          have f3 := hB2.frozen (i * 6 + 3)
          have f4 := hB2.frozen (i * 6 + 4)
          have f5 := hB2.frozen (i * 6 + 5)
          have hgl2 := hB2.lt
          have HB2 := Lib.hid hB2
          have HE2 := Lib.hid hE2
          clear hb2 c0 c1 c2 c3 c4 c5 hB2 hE2 hA hX
          go_wp2_with fail
          have hB3 := blk_set6 HB2.out (i * 6) x
          have hE3 := below_set6 HE2.out hBG (i * 6) x
          go_roundw
          case rel => exact ⟨i + 1, j + 1, _, by go_num, by go_num, by omega, HN.out, hB3, hE3⟩
          case measure => (simp [intOf] <;> omega)
      · obtain rfl : j = l.length := by omega
        have hsome : ∀ k, k < (l.length - i) * 6 → (wr.cell? ⟨G, i * 6 + k, none⟩).isSome = true := fun k hk => by
          obtain ⟨u, hu⟩ := blk_at hblk (k := i * 6 + k) (by omega)
          rw [hu]; rfl
        obtain ⟨zs, hzl, hcl⟩ := run_clear_many wr 30 27 (.agg #[.int .i64 0, .int .i64 0, .int .i64 0, .int .i64 0, .int .i64 0, .int .i64 0]) Try.underlying30 Try.zeroValue27 (by intro u hu; simp [Value.cells] at hu; rcases hu with rfl | rfl | rfl | rfl | rfl | rfl <;> rfl) G (i * 6) (l.length - i) (cap - i) (by omega) (by decide) hsome (fun k _ => hblk.frozen _)
        obtain ⟨cs', k1, k2, k3⟩ := blk_setCells zs (i * 6) wr cs hblk
        have hE := hbe.trans (below_setCellsB hBG zs (i * 6) wr)
        have hkept := hs.kept
        have hlow := hs.low
        rw [List.take_length] at hkept hlow
        have hlow2 : cs'.toList.take (i * 6) = bxc (l.filter (fun x => !p x)) := by
          rw [← hlow]
          refine List.ext_getElem? (fun k => ?_)
          by_cases hk : k < i * 6
          · rw [List.getElem?_take_of_lt hk, List.getElem?_take_of_lt hk, Array.getElem?_toList, Array.getElem?_toList, k3 k hk]
          · rw [List.getElem?_eq_none (by rw [List.length_take]; omega), List.getElem?_eq_none (by rw [List.length_take]; omega)]
        have HOW := Lib.hid (own_blk (n := i) k1 hBG (by omega) hcm (k2.trans hsz) hlow2 (by rw [bxc_len, ← hkept]))
        have HK := Lib.hid hkept
        have HE := Lib.hid hE
        clear hbe hblk hs hsome k1 k2 k3 hkept hlow hlow2 hE hzl hj HF
        generalize wr.setCells G (i * 6) zs = W2 at *
        go_wp2_with fail
        go_returns
        exact ⟨_, rfl, by rw [← HK.out]; exact HOW.out, HE.out⟩
end
end Go.Proofs.Ytofoenlhbmammaa
