/- SET: whether a number is in; THE PLAIN LAW of joined sets. -/
import Derived.Test.YtofoenlhbmammaaGreatQ0SetTwoF11
import Derived.Test.YtofoenlhbmammaaGreatQ10F11
import Derived.Test.YtofoenlhbmammaaGreatQ0YardAF11
import Derived.Test.YtofoenlhbmammaaGreatQ0YardNF11
import Derived.Test.YtofoenlhbmammaaGreatQ0YardOF11
set_option linter.unusedVariables false
set_option linter.unusedSimpArgs false
namespace Go.Proofs.YtofoenlhbmammaaGreat

section
section
open Go.RowKit Go.Shelf

/-- Does one word, at the least, have a bit? -/
def anyNZ (ws : List Nat) : Bool := ws.any (fun x => decide (x ≠ 0))
def firstNZ (ws : List Nat) : Int := if anyNZ ws then ((ws.findIdx (fun x => decide (x ≠ 0)) : Nat) : Int) else -1

theorem any_take_succ {α : Type} {l : List α} {p : α → Bool} {k : Nat} (h : k < l.length) (h0 : (l.take k).any p = false) : (l.take (k + 1)).any p = p l[k] := by
  rw [List.take_succ_eq_append_getElem h, List.any_append, h0]; simp

/-- A closure that asks whether a word has a bit. -/
def AsksNZ (P : Program) (g : Nat) : Prop :=
  ∀ (x : Nat) (W : World), Calls P g #[.int .u64 (x : Int)] W fun e w' => e = .returned (.bool (decide (x ≠ 0))) ∧ w' = W

theorem firstNZ_ge (ws : List Nat) : decide (firstNZ ws ≥ 0) = anyNZ ws := by
  unfold firstNZ; cases anyNZ ws <;> simp

end

section
open Go.RowKit Go.Shelf

theorem set_of_own {W : World} {B : Nat} {v : Value} {ws : List Nat} (h : W.ownsRow B 56 1 v ws.length (wcells ws)) (hl : ws.length ≤ 4611686018427387904) (hf : W64 ws) :
    ∃ base cap, v = .slice base ws.length cap ∧ SetIn W base ws ∧ ws.length ≤ cap := by
  obtain ⟨base, cap, rfl, rd, hc⟩ := own_rd h
  exact ⟨base, cap, rfl, ⟨rd, hl, hf⟩, hc⟩

theorem mem_zipWith {f : Nat → Nat → Nat} {a b : List Nat} {x : Nat} (h : x ∈ List.zipWith f a b) : ∃ p ∈ a, ∃ q ∈ b, x = f p q := by
  obtain ⟨i, hi, rfl⟩ := List.mem_iff_getElem.1 h
  rw [List.length_zipWith] at hi
  exact ⟨a[i], List.getElem_mem _, b[i], List.getElem_mem _, by simp⟩
theorem zip_fit {f : Nat → Nat → Nat} {a b : List Nat} (hf : ∀ x y, x < 2 ^ 64 → y < 2 ^ 64 → f x y < 2 ^ 64) (ha : W64 a) (hb : W64 b) : W64 (List.zipWith f a b) := by
  intro x hx
  obtain ⟨p, hp, q, hq, rfl⟩ := mem_zipWith hx
  exact hf p q (ha p hp) (hb q hq)
theorem andW_fit (x y : Nat) (hx : x < 2 ^ 64) (_ : y < 2 ^ 64) : andW x y < 2 ^ 64 := Nat.lt_of_le_of_lt Nat.and_le_left hx
theorem orW_fit (x y : Nat) (hx : x < 2 ^ 64) (hy : y < 2 ^ 64) : orW x y < 2 ^ 64 := Nat.or_lt_two_pow hx hy
theorem lessW_fit (x y : Nat) (hx : x < 2 ^ 64) (_ : y < 2 ^ 64) : lessW x y < 2 ^ 64 := Nat.lt_of_le_of_lt Nat.and_le_left hx

/-- What is joined, if all may be. -/
def joinIf (f : Nat → Nat → Nat) (n : Int) (a b : List Nat) : List Nat := if sChk2 n a b = 0 then List.zipWith f a b else []
theorem joinIf_fit {f : Nat → Nat → Nat} {n : Int} {a b : List Nat} (hf : ∀ x y, x < 2 ^ 64 → y < 2 ^ 64 → f x y < 2 ^ 64) (ha : W64 a) (hb : W64 b) : W64 (joinIf f n a b) := by
  unfold joinIf; split
  · exact zip_fit hf ha hb
  · intro x hx; simp at hx
theorem joinIf_len {f : Nat → Nat → Nat} {n : Int} {a b : List Nat} : (joinIf f n a b).length ≤ a.length := by
  unfold joinIf; split
  · simp; omega
  · simp

end
end

section
open Go.RowKit Go.Shelf

/-- A set's slice, whole. -/
structure SS (W : World) (v : Value) (ws : List Nat) : Prop where
  ex : ∃ base cap, v = .slice base ws.length cap ∧ SetIn W base ws
theorem SS.keep {w W : World} {v : Value} {ws : List Nat} (h : SS w v ws) (hb : Below w.heap.size w W) : SS W v ws := by
  obtain ⟨base, cap, e, h1⟩ := h.ex
  exact ⟨base, cap, e, h1.keep hb⟩
theorem SS.of {W : World} {B : Nat} {v : Value} {ws : List Nat} (h : W.ownsRow B 56 1 v ws.length (wcells ws)) (hl : ws.length ≤ 4611686018427387904) (hf : W64 ws) : SS W v ws := by
  obtain ⟨base, cap, e, h1, _⟩ := set_of_own h hl hf
  exact ⟨base, cap, e, h1⟩
theorem whS_len (p : List Sl → Bool) (ns : List (List Sl)) : (whS p ns).length = nWords ns.length := bitsOf_len _ _
theorem whS_fit (p : List Sl → Bool) (ns : List (List Sl)) : W64 (whS p ns) := bitsOf_fit _ _
theorem fit_nil : W64 [] := fun x h => by cases h
theorem SS.same {W : World} {u v : Value} {a b : List Nat} (hu : SS W u a) (hv : SS W v b) : Calls Tryz.prog 16 #[u, v] W (RB W (.bool (decide (a = b)))) := by
  obtain ⟨b1, c1, rfl, h1⟩ := hu.ex
  obtain ⟨b2, c2, rfl, h2⟩ := hv.ex
  exact ref03_Same b1 b2 c1 c2 a b W h1 h2
theorem busyV_ok (y : Yd) (f t : Int) (h1 : y.ns.length ≤ 1000) (h2 : y.ls.length ≤ 1000) : ((busyV y f t).1.length ≤ 1000 ∧ W64 (busyV y f t).1) ∧ ((busyV y f t).2.length ≤ 1000 ∧ W64 (busyV y f t).2) := by
  unfold busyV busySets
  split
  · simp only [whS_len]
    unfold nWords
    exact ⟨⟨by omega, whS_fit _ _⟩, ⟨by omega, whS_fit _ _⟩⟩
  · exact ⟨⟨by simp, fit_nil⟩, ⟨by simp, fit_nil⟩⟩
theorem ownV_ok (y : Yd) (ow a : Int) (h1 : y.ns.length ≤ 1000) (h2 : y.ls.length ≤ 1000) : ((ownV y ow a).1.length ≤ 1000 ∧ W64 (ownV y ow a).1) ∧ ((ownV y ow a).2.length ≤ 1000 ∧ W64 (ownV y ow a).2) := by
  unfold ownV ownSets
  split
  · simp only [whS_len]
    unfold nWords
    exact ⟨⟨by omega, whS_fit _ _⟩, ⟨by omega, whS_fit _ _⟩⟩
  · exact ⟨⟨by simp, fit_nil⟩, ⟨by simp, fit_nil⟩⟩
/-- Calendars, a yard's value. -/
structure YS (W : World) (v : Value) (y : Yd) : Prop where
  ex : ∃ bn bl cn cl, v = .agg #[.int .i64 y.d.x, .int .i64 y.d.y, .int .i64 y.d.z, (.slice bn y.ns.length cn), (.slice bl y.ls.length cl)] ∧ CC W bn y.ns ∧ CC W bl y.ls
theorem YS.keep {w W : World} {v : Value} {y : Yd} (h : YS w v y) (hb : Below w.heap.size w W) : YS W v y := by
  obtain ⟨bn, bl, cn, cl, e, h1, h2⟩ := h.ex
  exact ⟨bn, bl, cn, cl, e, h1.keep hb, h2.keep hb⟩
theorem YS.many {w : World} {v : Value} {y : Yd} (h : YS w v y) : y.ns.length ≤ 1000 ∧ y.ls.length ≤ 1000 := by
  obtain ⟨bn, bl, cn, cl, e, h1, h2⟩ := h.ex
  exact ⟨h1.many, h2.many⟩
/-- Two new sets, as they may be read, and an error. -/
def RSS (w : World) (a b : List Nat) (x : Int) : Ending → World → Prop := fun e w' => ∃ u v, e = .returned (.tuple #[u, v, .int .i64 x]) ∧ SS w' u a ∧ SS w' v b ∧ Below w.heap.size w w'
theorem RSS.of {P : Program} {f : FuncId} {args : Array Value} {w : World} {a b : List Nat} {x : Int} (h : Calls P f args w (RU2E w a b x)) (h1 : (a.length ≤ 1000 ∧ W64 a) ∧ (b.length ≤ 1000 ∧ W64 b)) : Calls P f args w (RSS w a b x) :=
  h.mono fun e w' ⟨u, v, he, hu, hv, hb⟩ => ⟨u, v, he, SS.of hu (by have := h1.1.1; omega) h1.1.2, SS.of hv (by have := h1.2.1; omega) h1.2.2, hb⟩
section
variable {w : World} {v : Value} {y : Yd} (h : YS w v y)
include h
theorem y_Busy (f t : Int) : Calls Tryz.prog 25 #[v, .agg #[.int .i64 f, .int .i64 t]] w (RSS w (busyV y f t).1 (busyV y f t).2 (busyE y f t)) := by
  have hm := h.many
  obtain ⟨bn, bl, cn, cl, rfl, h1, h2⟩ := h.ex
  exact RSS.of (cals_Busy y.d bn bl cn cl y.ns y.ls f t w h1 h2) (busyV_ok y f t hm.1 hm.2)
theorem y_RBusy (f t : Int) : Calls Tryz.prog 28 #[v, .agg #[.int .i64 f, .int .i64 t]] w (RSS w (busyV y f t).1 (busyV y f t).2 (busyE y f t)) := by
  have hm := h.many
  obtain ⟨bn, bl, cn, cl, rfl, h1, h2⟩ := h.ex
  exact RSS.of (ref09_Busy y.d bn bl cn cl y.ns y.ls f t w h1 h2) (busyV_ok y f t hm.1 hm.2)
theorem y_Same {u : Value} {z : Yd} (hu : YS w u z) : Calls Tryz.prog 17 #[v, u] w (RB w (.bool (y.same z))) := by
  obtain ⟨bn, bl, cn, cl, rfl, h1, h2⟩ := h.ex
  obtain ⟨bm, bk, cm, ck, rfl, h3, h4⟩ := hu.ex
  exact ref09_Same y.d z.d bn bl bm bk cn cl cm ck y.ns y.ls z.ns z.ls w h1 h2 h3 h4
end
theorem great_cc {w w' : World} {bn bl : Option Addr} {ns ls : List (List Sl)} (hn : CC w bn ns) (hl : CC w' bl ls) : (ns.length ≤ 1000 ∧ ∀ c ∈ ns, c.length ≤ 10000) ∧ (ls.length ≤ 1000 ∧ ∀ c ∈ ls, c.length ≤ 10000) := ⟨⟨hn.many, hn.small⟩, ⟨hl.many, hl.small⟩⟩
theorem great_reach (d : V3) (bn bl : Option Addr) (cn cl : Nat) (ns ls : List (List Sl)) (w : World) (hn : CR w bn ns) (hl : CR w bl ls)
    (hz : (ns.length * 24 ≤ reachBytes ∧ ∀ c ∈ ns, c.length * 24 ≤ reachBytes) ∧ (ls.length * 24 ≤ reachBytes ∧ ∀ c ∈ ls, c.length * 24 ≤ reachBytes)) :
    Calls Tryz.prog 8 #[.agg #[.int .i64 d.x, .int .i64 d.y, .int .i64 d.z, (.slice bn ns.length cn), (.slice bl ls.length cl)]] w (RB w (.bool (greatB ns ls))) := by
  have hr : reachBytes = 140737488351232 := rfl
  rw [hr] at hz
  obtain ⟨⟨h1, h2⟩, h3, h4⟩ := hz
  exact ref09_Great d bn bl cn cl ns ls w hn hl (by omega) (by omega) (fun c hc => by have := h2 c hc; omega) (fun c hc => by have := h4 c hc; omega)
end

section
section
open Go.RowKit Go.Shelf

/-- Is an integer in a set? -/
def hasI (ws : List Nat) (k : Int) : Bool := decide (0 ≤ k) && there ws k.toNat

theorem topOut {n : Int} {ws : List Nat} (h : sChk n ws = 0) (hw : W64 ws) {i : Nat} (hi : n.toNat ≤ i) : there ws i = false := by
  obtain ⟨hn, hl, ht⟩ := sMay_len h
  by_cases hin : i / 64 < ws.length
  · have hn' := hn
    unfold nMay at hn'
    have hnw : nWords n = (n.toNat + 63) / 64 := by unfold nWords; omega
    have hk : i / 64 = nWords n - 1 := by omega
    have hm : n % 64 ≠ 0 := by omega
    unfold topClear at ht
    rw [decide_eq_false hm, Bool.false_or, decide_eq_true_eq] at ht
    rw [there_in hin]
    have e : ws.getD (nWords n - 1) 0 = ws[i / 64] := by simp only [← hk]; simp [hin]
    rw [e] at ht
    have hlt : ws[i / 64] < 2 ^ (n % 64).toNat := by
      rcases Nat.div_eq_zero_iff.1 ht with h0 | h0
      · exact absurd h0 (by have := Nat.two_pow_pos (n % 64).toNat; omega)
      · exact h0
    rw [bitOf_test, Nat.testBit_lt_two_pow]
    exact Nat.lt_of_lt_of_le hlt (Nat.pow_le_pow_right (by decide) (by omega))
  · exact there_out (by omega)

theorem nMay_of {n : Int} {ws : List Nat} (h : sChk n ws = 0) : nMay n := (sMay_len h).1
theorem hasI_top {n : Int} {ws : List Nat} (h : sChk n ws = 0) (hw : W64 ws) {k : Int} (hk : n ≤ k) : hasI ws k = false := by
  have := nMay_of h
  unfold nMay at this
  unfold hasI
  rw [topOut h hw (by omega), Bool.and_false]
theorem hasI_neg {ws : List Nat} {k : Int} (hk : k < 0) : hasI ws k = false := by
  unfold hasI; rw [decide_eq_false (by omega)]; rfl
theorem hasI_nat {ws : List Nat} {k : Nat} : hasI ws (k : Int) = there ws k := by
  unfold hasI; rw [decide_eq_true (by omega), Int.toNat_natCast, Bool.true_and]

/-- What is told of a set that may be; nothing of one that may not. -/
def hasV (n : Int) (ws : List Nat) (k : Int) : Bool := if sChk n ws = 0 then hasI ws k else false

set_option maxRecDepth 100000 in set_option maxHeartbeats 4000000 in
theorem set_Has (n : Int) (base : Option Addr) (cap : Nat) (ws : List Nat) (k : Int) (w : World) (hs : SetIn w base ws) :
    Calls Tryz.prog 84 #[.int .i64 n, .slice base ws.length cap, .int .i64 k] w (RB w (.tuple #[.bool (hasV n ws k), .int .i64 (sChk n ws)])) := by
  have HC := Lib.hid (set_Check n base cap ws w hs.rd hs.len hs.fit)
  by_cases hz : sChk n ws = 0
  · have hy1 : (sChk n ws == 0) = true := by simpa using hz
    have hy2 : (sChk n ws != 0) = false := by simpa using hz
    have hv : hasV n ws k = hasI ws k := if_pos hz
    obtain ⟨hn, hlen, _⟩ := sMay_len hz
    have hz0 := Lib.hid hz
    replace hlen := Lib.hid hlen
    unfold nMay at hn
    by_cases h0 : k < 0
    · have hq := Lib.hid (hv.trans (hasI_neg h0))
      clear hv hz
      go_enter Tryz.func84, Tryz.ntmps84
      go_wp2_with ((with_reducible refine HC.out.mono ?_); rintro e w3 ⟨rfl, hw3⟩; have hw3 := hw3.symm; subst hw3)
      all_goals
        go_returns
        exact ⟨by rw [hq.out, hz0.out]; rfl, by (repeat (first | (with_reducible exact Below.refl _ _) | (with_reducible assumption) | (with_reducible refine below_alloc ?_ _) | (with_reducible refine below_drewN ?_ _) | (with_reducible refine Below.drew ?_) | (with_reducible refine below_then ?_ (by with_reducible assumption)) | (with_reducible refine Below.setCell ?_ (by go_size) _)))⟩
    · by_cases h1 : n ≤ k
      · have hq := Lib.hid (hv.trans (hasI_top hz hs.fit h1))
        clear hv hz
        go_enter Tryz.func84, Tryz.ntmps84
        go_wp2_with ((with_reducible refine HC.out.mono ?_); rintro e w3 ⟨rfl, hw3⟩; have hw3 := hw3.symm; subst hw3)
        all_goals
          go_returns
          exact ⟨by rw [hq.out, hz0.out]; rfl, by (repeat (first | (with_reducible exact Below.refl _ _) | (with_reducible assumption) | (with_reducible refine below_alloc ?_ _) | (with_reducible refine below_drewN ?_ _) | (with_reducible refine Below.drew ?_) | (with_reducible refine below_then ?_ (by with_reducible assumption)) | (with_reducible refine Below.setCell ?_ (by go_size) _)))⟩
      · obtain ⟨j, rfl⟩ : ∃ j : Nat, k = (j : Int) := ⟨k.toNat, by omega⟩
        have hjw : j / 64 < ws.length := by rw [hlen.out]; unfold nWords; omega
        obtain ⟨b, off, rfl, hc⟩ := hs.rd _ _ (wcells_at hjw)
        have hb := hs.fit _ (List.getElem_mem hjw)
        have hq := Lib.hid (hv.trans (hasI_nat.trans (there_in hjw)))
        obtain ⟨x, hx⟩ : ∃ x, x = ws[j / 64] := ⟨_, rfl⟩
        rw [← hx] at hc hb hq
        have hu := Lib.hid (u64_bit x (j % 64) hb)
        have h2 : (j : Int) < n := by omega
        clear hx hv hz hs
        go_enter Tryz.func84, Tryz.ntmps84
        go_wp2_with ((with_reducible refine HC.out.mono ?_); rintro e w3 ⟨rfl, hw3⟩; have hw3 := hw3.symm; subst hw3)
        all_goals
          go_returns
          exact ⟨by rw [hq.out, hz0.out, ← hu.out]; rfl, by (repeat (first | (with_reducible exact Below.refl _ _) | (with_reducible assumption) | (with_reducible refine below_alloc ?_ _) | (with_reducible refine below_drewN ?_ _) | (with_reducible refine Below.drew ?_) | (with_reducible refine below_then ?_ (by with_reducible assumption)) | (with_reducible refine Below.setCell ?_ (by go_size) _)))⟩
  · have hy1 : (sChk n ws == 0) = false := by simpa using hz
    have hy2 : (sChk n ws != 0) = true := by simpa using hz
    have hq := Lib.hid (show hasV n ws k = false from if_neg hz)
    clear hz
    go_enter Tryz.func84, Tryz.ntmps84
    go_wp2_with ((with_reducible refine HC.out.mono ?_); rintro e w3 ⟨rfl, hw3⟩; have hw3 := hw3.symm; subst hw3)
    all_goals
      go_returns
      exact ⟨by rw [hq.out]; rfl, by (repeat (first | (with_reducible exact Below.refl _ _) | (with_reducible assumption) | (with_reducible refine below_alloc ?_ _) | (with_reducible refine below_drewN ?_ _) | (with_reducible refine Below.drew ?_) | (with_reducible refine below_then ?_ (by with_reducible assumption)) | (with_reducible refine Below.setCell ?_ (by go_size) _)))⟩

set_option maxRecDepth 100000 in set_option maxHeartbeats 4000000 in
theorem ref03_ThereI (base : Option Addr) (cap : Nat) (ws : List Nat) (k : Int) (w : World) (hr : SetIn w base ws) (hk : k ≤ 9223372036854775807) :
    Calls Tryz.prog 49 #[.slice base ws.length cap, .int .i64 k] w fun e w' => e = .returned (.bool (hasI ws k)) ∧ w' = w := by
  by_cases h0 : k < 0
  · rw [hasI_neg h0]
    exact ref03_There_neg base cap ws k w h0
  · obtain ⟨j, rfl⟩ : ∃ j : Nat, k = (j : Int) := ⟨k.toNat, by omega⟩
    rw [hasI_nat]
    have hlen := hr.len
    by_cases h : j / 64 < ws.length
    · obtain ⟨b, off, rfl, hc⟩ := hr.rd _ _ (wcells_at h)
      have hb := hr.fit _ (List.getElem_mem h)
      have hq := Lib.hid (there_in h)
      obtain ⟨x, hx⟩ : ∃ x, x = ws[j / 64] := ⟨_, rfl⟩
      rw [← hx] at hc hb hq
      clear hx hr
      go_enter Tryz.func49, Tryz.ntmps49
      have hu := Lib.hid (u64_bit x (j % 64) hb)
      go_wp2_with fail
      go_returns
      exact ⟨by rw [hq.out, ← hu.out]; rfl, rfl⟩
    · have hq := Lib.hid (there_out (ws := ws) (k := j) (by omega))
      clear hr
      go_enter Tryz.func49, Tryz.ntmps49
      go_wp2_with fail
      go_returns
      exact ⟨by rw [hq.out]; rfl, rfl⟩

end

section
open Go.RowKit Go.Shelf

/-- A set of as many words as it may have, with nothing at its bound or beyond, may be. -/
theorem sChk_of {n : Int} {ws : List Nat} (hn : nMay n) (hl : ws.length = nWords n) (hw : W64 ws) (h : ∀ i, n.toNat ≤ i → there ws i = false) : sChk n ws = 0 := by
  have h1 : refMay n ws = true := by
    unfold refMay clearTo
    rw [decide_eq_true hl, Bool.true_and, List.all_eq_true]
    intro j _
    rw [h _ (by omega)]; rfl
  rw [refMay_eq hn hw, decide_eq_true_iff] at h1
  rw [sChk, if_pos hn, okIf_yes h1]

theorem there_far {ws : List Nat} {i : Nat} (h : ¬ i / 64 < ws.length) : there ws i = false := there_out (by omega)

theorem join_may {f : Nat → Nat → Nat} {r : Bool → Bool → Bool} (hf : ∀ x y j, x < 2 ^ 64 → y < 2 ^ 64 → j < 64 → (f x y).testBit j = r (x.testBit j) (y.testBit j)) (hfit : ∀ x y, x < 2 ^ 64 → y < 2 ^ 64 → f x y < 2 ^ 64) (h0 : r false false = false)
    {n : Int} {a b : List Nat} (h : sChk2 n a b = 0) (ha : W64 a) (hb : W64 b) :
    sChk n (joinIf f n a b) = 0 ∧ (joinIf f n a b).length = a.length ∧ ∀ i, there (joinIf f n a b) i = r (there a i) (there b i) := by
  have hj : joinIf f n a b = List.zipWith f a b := if_pos h
  obtain ⟨h1, h2⟩ := sChk2_0 h
  obtain ⟨hn, hla, _⟩ := sMay_len h1
  obtain ⟨_, hlb, _⟩ := sMay_len h2
  have hlen : (List.zipWith f a b).length = a.length := by rw [List.length_zipWith]; omega
  have ht : ∀ i, there (List.zipWith f a b) i = r (there a i) (there b i) := by
    intro i
    by_cases hi : i / 64 < a.length
    · have h2 : i / 64 < b.length := by omega
      rw [there_in (by omega : i / 64 < (List.zipWith f a b).length), there_in hi, there_in h2]
      simp only [bitOf_test, List.getElem_zipWith]
      exact hf _ _ _ (ha _ (List.getElem_mem hi)) (hb _ (List.getElem_mem h2)) (Nat.mod_lt _ (by decide))
    · rw [there_far (by omega), there_far hi, there_far (by omega), h0]
  rw [hj]
  refine ⟨sChk_of hn (by omega) (zip_fit hfit ha hb) (fun i hi => ?_), hlen, ht⟩
  rw [ht, topOut h1 ha hi, topOut h2 hb hi, h0]

theorem andW_test (p q j : Nat) (_ : p < 2 ^ 64) (_ : q < 2 ^ 64) (_ : j < 64) : (andW p q).testBit j = (p.testBit j && q.testBit j) := by
  unfold andW; rw [Nat.testBit_and]
theorem orW_test (p q j : Nat) (_ : p < 2 ^ 64) (_ : q < 2 ^ 64) (_ : j < 64) : (orW p q).testBit j = (p.testBit j || q.testBit j) := by
  unfold orW; rw [Nat.testBit_or]
theorem lessW_test (p q j : Nat) (_ : p < 2 ^ 64) (hq : q < 2 ^ 64) (hj : j < 64) : (lessW p q).testBit j = (p.testBit j && !q.testBit j) := by
  have e : 18446744073709551615 - q = 2 ^ 64 - (q + 1) := by omega
  unfold lessW; rw [Nat.testBit_and, e, Nat.testBit_two_pow_sub_succ hq]; simp [hj]

theorem and_may {n : Int} {a b : List Nat} (h : sChk2 n a b = 0) (ha : W64 a) (hb : W64 b) : sChk n (joinIf andW n a b) = 0 ∧ (joinIf andW n a b).length = a.length ∧ ∀ i, there (joinIf andW n a b) i = (there a i && there b i) :=
  join_may (r := fun x y => x && y) andW_test andW_fit rfl h ha hb
theorem or_may {n : Int} {a b : List Nat} (h : sChk2 n a b = 0) (ha : W64 a) (hb : W64 b) : sChk n (joinIf orW n a b) = 0 ∧ (joinIf orW n a b).length = a.length ∧ ∀ i, there (joinIf orW n a b) i = (there a i || there b i) :=
  join_may (r := fun x y => x || y) orW_test orW_fit rfl h ha hb
theorem less_may {n : Int} {a b : List Nat} (h : sChk2 n a b = 0) (ha : W64 a) (hb : W64 b) : sChk n (joinIf lessW n a b) = 0 ∧ (joinIf lessW n a b).length = a.length ∧ ∀ i, there (joinIf lessW n a b) i = (there a i && !there b i) :=
  join_may (r := fun x y => x && !y) lessW_test lessW_fit rfl h ha hb

theorem sChk2_of {n : Int} {a b : List Nat} (h1 : sChk n a = 0) (h2 : sChk n b = 0) : sChk2 n a b = 0 := by
  unfold sChk2; rw [if_pos h1]; exact h2
theorem there_zeros (m i : Nat) : there (List.replicate m 0) i = false := by
  have e : (List.replicate m 0).getD (i / 64) 0 = 0 := by
    rw [List.getD_eq_getElem?_getD, List.getElem?_replicate]; split <;> rfl
  simp only [there, e, bitOf_test]
  simp
theorem there_puts (m i : Nat) : ∀ (l : List Int) (ws : List Nat), ws.length = m → (∀ x ∈ l, 0 ≤ x ∧ x < 64 * (m : Int)) →
    there (l.foldl (fun ws x => putBit ws x.toNat) ws) i = (there ws i || decide ((i : Int) ∈ l))
  | [], ws, _, _ => by simp
  | x :: l, ws, hl, h => by
    have hx := h x (List.mem_cons_self ..)
    rw [List.foldl_cons, there_puts m i l _ (by rw [putBit_len]; exact hl) (fun y hy => h y (List.mem_cons_of_mem _ hy)), there_putBit (by omega), Bool.or_assoc]
    congr 1
    rw [Bool.eq_iff_iff]
    simp only [Bool.or_eq_true, decide_eq_true_eq, List.mem_cons]
    constructor
    · rintro (h1 | h1)
      · left; omega
      · exact .inr h1
    · rintro (h1 | h1)
      · left; omega
      · exact .inr h1
theorem there_bitsOf {m : Nat} {l : List Int} (h : ∀ x ∈ l, 0 ≤ x ∧ x < 64 * (m : Int)) (i : Nat) : there (bitsOf m l) i = decide ((i : Int) ∈ l) := by
  unfold bitsOf
  rw [there_puts m i l _ (by simp) h, there_zeros, Bool.false_or]

theorem nWords_le {n : Int} (hn : nMay n) : n ≤ 64 * (nWords n : Int) := by unfold nMay at hn; unfold nWords; omega

theorem anyNZ_at {ws : List Nat} (hw : W64 ws) : anyNZ ws = true ↔ ∃ i, i < 64 * ws.length ∧ there ws i = true := by
  unfold anyNZ
  rw [List.any_eq_true]
  constructor
  · rintro ⟨x, hx, h⟩
    obtain ⟨k, hk, rfl⟩ := List.mem_iff_getElem.1 hx
    have hne : ws[k] ≠ 0 := by simpa using h
    obtain ⟨j, hj⟩ := Nat.exists_testBit_of_ne_zero hne
    have hlt := hw _ hx
    have hj64 : j < 64 := by
      rcases Nat.lt_or_ge j 64 with h | h
      · exact h
      · have hf := Nat.testBit_lt_two_pow (Nat.lt_of_lt_of_le hlt (Nat.pow_le_pow_right (by decide) h : 2 ^ 64 ≤ 2 ^ j))
        rw [hf] at hj; exact absurd hj (by decide)
    refine ⟨64 * k + j, by omega, ?_⟩
    rw [there_in (by omega), bitOf_test]
    simp only [show (64 * k + j) / 64 = k by omega, show (64 * k + j) % 64 = j by omega]
    exact hj
  · rintro ⟨i, hi, ht⟩
    have hk : i / 64 < ws.length := by omega
    rw [there_in hk, bitOf_test] at ht
    refine ⟨ws[i / 64], List.getElem_mem hk, ?_⟩
    rw [decide_eq_true_eq]
    intro e
    rw [e, Nat.zero_testBit] at ht
    exact absurd ht (by decide)
end
end
end Go.Proofs.YtofoenlhbmammaaGreat
