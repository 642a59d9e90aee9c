/- FAULT: whether numbers are marks: the closure that keeps the last one. -/
import Derived.Test.YthabpiphfaedaaaDoorQ0BSearchM
namespace Go.Proofs.YthabpiphfaedaaaDoor

section
open Go.RowKit Go.Shelf

set_option maxRecDepth 100000 in set_option maxHeartbeats 4000000 in
theorem fault_marks1 (k n last : Int) (p q : Nat) (t u : TypeId) (w : World) (hp : Blk w p t #[.int .i64 last]) (hq : Blk w q u #[.int .i64 n]) (hne : q ≠ p) :
    Calls Tryd.prog 131 #[.int .i64 k, .pointer (some ⟨p, 0, none⟩), .pointer (some ⟨q, 0, none⟩)] w fun e w' => e = .returned (.bool (decide (k ≤ last) || decide (n ≤ k))) ∧ w' = w.setCell ⟨p, 0, none⟩ (.int .i64 k) := by
  have cp := hp.cell 0 _ rfl
  have fp := hp.frozen 0
  have cq := hq.cell 0 _ rfl
  clear hp hq
  by_cases h1 : k ≤ last
  · have d1 : decide (k ≤ last) = true := decide_eq_true h1
    rw [d1, Bool.true_or]
    go_enter Tryd.func131, Tryd.ntmps131
    go_wp2_with fail
    go_returns
    exact ⟨rfl, rfl⟩
  · have d1 : decide (k ≤ last) = false := decide_eq_false h1
    rw [d1, Bool.false_or]
    have HD := Lib.hid (rfl : decide (n ≤ k) = decide (n ≤ k))
    go_enter Tryd.func131, Tryd.ntmps131
    go_wp2_with fail
    all_goals
      go_returns
      exact ⟨by first | rfl | (refine ret_bool ?_; simp [*]), rfl⟩

/-- The last of the first k, or the one before. -/
def lastM (l : List Int) (k : Nat) : Int := if k = 0 then -1 else l[k - 1]?.getD 0
theorem lastM_succ {l : List Int} {k : Nat} (h : k < l.length) : lastM l (k + 1) = l[k] := by unfold lastM; rw [if_neg (by omega)]; simp [h]
theorem mk_app (n : Int) : ∀ (a b : List Int) (last : Int), mk n last (a ++ b) = (mk n last a && mk n ((a.getLast?).getD last) b)
  | [], b, last => by simp [mk]
  | x :: a, b, last => by
    simp only [List.cons_append, mk, mk_app n a b x]
    have e : ((x :: a).getLast?).getD last = (a.getLast?).getD x := by
      cases a with
      | nil => rfl
      | cons y a => rw [List.getLast?_cons_cons]; cases h : (y :: a).getLast? with
        | none => simp at h
        | some z => rfl
    rw [e]
    cases decide (last < x) <;> cases decide (x < n) <;> simp
theorem lastM_take {l : List Int} {k : Nat} (h : k ≤ l.length) : ((l.take k).getLast?).getD (-1) = lastM l k := by
  unfold lastM
  by_cases e : k = 0
  · subst e; simp
  · rw [if_neg e, List.getLast?_take, if_neg e]
    have hk : k - 1 < l.length := by omega
    simp [hk]
theorem mk_take_succ {l : List Int} {k : Nat} (h : k < l.length) (n : Int) : mk n (-1) (l.take (k + 1)) = (mk n (-1) (l.take k) && !(decide (l[k] ≤ lastM l k) || decide (n ≤ l[k]))) := by
  rw [List.take_succ_eq_append_getElem h, mk_app, lastM_take (by omega)]
  simp only [mk, Bool.and_true]
  congr 1
  rw [Bool.not_or]
  congr 1
  · rw [Bool.eq_iff_iff]; simp
  · rw [Bool.eq_iff_iff]; simp
theorem mk_take_no {l : List Int} {k : Nat} {n : Int} (h : mk n (-1) (l.take k) = false) : mk n (-1) l = false := by
  have e := mk_app n (l.take k) (l.drop k) (-1)
  rw [List.take_append_drop] at e
  rw [e, h]; rfl

/-- Where the first odd one is. -/
def RIx (w : World) (N : Nat) (ok : Bool) : Ending → World → Prop := fun e w' => (∃ r : Int, e = .returned (.int .i64 r) ∧ (ok = true → r = -1) ∧ (ok = false → 0 ≤ r)) ∧ Below N w w'
set_option maxRecDepth 100000 in set_option maxHeartbeats 4000000 in
theorem fault_index (base : Option Addr) (cap : Nat) (l : List Int) (n : Int) (p q N : Nat) (t u : TypeId) (w : World) (hl : IIn w base l) (hNp : N ≤ p) (hbl : ∀ b off, base = some ⟨b, off, none⟩ → b < N ∨ l.length = 0) (hp : Blk w p t #[.int .i64 (-1)]) (hq : Blk w q u #[.int .i64 n]) (hne : q ≠ p) :
    Calls Tryd.prog 144 #[.slice base l.length cap, .func (.func 131) #[] #[.pointer (some ⟨p, 0, none⟩), .pointer (some ⟨q, 0, none⟩)]] w (RIx w N (mk n (-1) l)) := by
  have eg : ∀ args w, (callFunc 131 args).run Tryd.prog w = .ok (.enter 131 args) w := enters_of Tryd.func131 (by kernel_rfl) rfl
  have HI := Lib.hid hl
  have HP := Lib.hid hp
  have HQ := Lib.hid hq
  have hlen := hl.len
  have HBL := Lib.hid hbl
  clear hl hp hq hbl
  go_enter Tryd.func144, Tryd.ntmps144
  go_wp2_with fail
  go_loopw [8] (fun i wr => ∃ k : Nat, k ≤ l.length ∧ i = .int .i64 k ∧ mk n (-1) (l.take k) = true ∧ Blk wr p t #[.int .i64 (lastM l k)] ∧ Blk wr q u #[.int .i64 n] ∧ Below N w wr) (fun i _ => l.length - (intOf i).toNat)
  case atStart => exact ⟨0, Nat.zero_le _, rfl, rfl, HP.out, HQ.out, Below.refl _ _⟩
  case round =>
    obtain ⟨k, hk, rfl, hmk, hp, hq, hbel⟩ := hrel
    have HB := Lib.hid hbel
    have HP := Lib.hid hp
    have HQ := Lib.hid hq
    have HM := Lib.hid hmk
    clear hbel hp hq hmk
    by_cases hlt : k < l.length
    · obtain ⟨b, off, rfl, c0, hbs⟩ := HI.out.at hlt
      have hbN : b < N := by rcases HBL.out b off rfl with h | h; exact h; omega
      have c1 : wr.cell? ⟨b, off + k, none⟩ = some (.int .i64 l[k]) := (HB.out.cell (p := ⟨b, off + k, none⟩) hbN).trans c0
      have hs := Lib.hid (mk_take_succ hlt n)
      have hls := Lib.hid (lastM_succ hlt)
      obtain ⟨x, hx⟩ : ∃ x, x = l[k] := ⟨_, rfl⟩
      rw [← hx] at c0 c1 hs hls
      clear hx
      obtain ⟨la, hla⟩ : ∃ la, la = lastM l k := ⟨_, rfl⟩
      rw [← hla] at HP hs
      clear hla
      have HC := Lib.hid (fault_marks1 x n la p q t u wr HP.out HQ.out hne)
      have hz : (decide (x ≤ la) || decide (n ≤ x)) = true ∨ (decide (x ≤ la) || decide (n ≤ x)) = false := by cases (decide (x ≤ la) || decide (n ≤ x)) <;> simp
      rcases hz with hz | hz
      · rw [hz] at HC hs
        have hno := Lib.hid (show mk n (-1) l = false from mk_take_no (k := k + 1) (by rw [hs.out, HM.out]; rfl))
        clear hz hs
        go_wp2_with fail
        refine HC.out.mono ?_
        rintro e w3 ⟨rfl, hw3⟩
        have HB3 := Lib.hid (show Below N w w3 by rw [hw3]; exact HB.out.setCell hNp _)
        clear hw3
        go_wp2_with fail
        go_returns
        exact ⟨⟨k, rfl, fun h => (by rw [hno.out] at h; cases h), fun _ => by omega⟩, HB3.out⟩
      · rw [hz] at HC hs
        have hyes := Lib.hid (show mk n (-1) (l.take (k + 1)) = true by rw [hs.out, HM.out]; rfl)
        clear hz hs
        go_wp2_with fail
        refine HC.out.mono ?_
        rintro e w3 ⟨rfl, hw3⟩
        have HB3 := Lib.hid (show Below N w w3 by rw [hw3]; exact HB.out.setCell hNp _)
        have HP3 := Lib.hid (show Blk w3 p t #[.int .i64 x] by rw [hw3]; exact HP.out.set 0 _)
        have HQ3 := Lib.hid (show Blk w3 q u #[.int .i64 n] by rw [hw3]; exact HQ.out.other p 0 _ hne)
        clear hw3
        go_wp2_with fail
        go_roundw
        case rel => exact ⟨k + 1, by omega, by go_num, hyes.out, by rw [hls.out]; exact HP3.out, HQ3.out, HB3.out⟩
        case measure => (simp [intOf] <;> omega)
    · obtain rfl : k = l.length := by omega
      have hyes := Lib.hid (show mk n (-1) l = true by have := HM.out; rwa [List.take_length] at this)
      go_wp2_with fail
      go_returns
      exact ⟨⟨-1, rfl, fun _ => rfl, fun h => (by rw [hyes.out] at h; cases h)⟩, HB.out⟩

set_option maxRecDepth 100000 in set_option maxHeartbeats 4000000 in
theorem fault_contains (base : Option Addr) (cap : Nat) (l : List Int) (n : Int) (p q N : Nat) (t u : TypeId) (w : World) (hl : IIn w base l) (hNp : N ≤ p) (hbl : ∀ b off, base = some ⟨b, off, none⟩ → b < N ∨ l.length = 0) (hp : Blk w p t #[.int .i64 (-1)]) (hq : Blk w q u #[.int .i64 n]) (hne : q ≠ p) :
    Calls Tryd.prog 130 #[.slice base l.length cap, .func (.func 131) #[] #[.pointer (some ⟨p, 0, none⟩), .pointer (some ⟨q, 0, none⟩)]] w fun e w' => e = .returned (.bool (!mk n (-1) l)) ∧ Below N w w' := by
  have H1 := Lib.hid (fault_index base cap l n p q N t u w hl hNp hbl hp hq hne)
  clear hl hp hq hbl
  cases hm : mk n (-1) l
  · rw [hm] at H1
    clear hm
    go_enter Tryd.func130, Tryd.ntmps130
    go_wp2_with fail
    refine H1.out.mono ?_
    rintro e w1 ⟨⟨r, rfl, _, hr⟩, hb⟩
    have h0 := hr rfl
    clear hr
    go_wp2_with fail
    go_returns
    exact ⟨rfl, hb⟩
  · rw [hm] at H1
    clear hm
    go_enter Tryd.func130, Tryd.ntmps130
    go_wp2_with fail
    refine H1.out.mono ?_
    rintro e w1 ⟨⟨r, rfl, hr, _⟩, hb⟩
    obtain rfl := hr rfl
    clear hr
    go_wp2_with fail
    go_returns
    exact ⟨rfl, hb⟩

set_option maxRecDepth 100000 in set_option maxHeartbeats 4000000 in
theorem fault_marks (n : Int) (base : Option Addr) (cap : Nat) (l : List Int) (w : World) (hl : IIn w base l) : Calls Tryd.prog 101 #[.int .i64 n, .slice base l.length cap] w (RB w (.bool (mk n (-1) l))) := by
  have hbl : ∀ b off, base = some ⟨b, off, none⟩ → b < w.heap.size ∨ l.length = 0 := fun b off e => by
    rcases Nat.eq_zero_or_pos l.length with h | h
    · exact .inr h
    · obtain ⟨b', off', e', _, hb⟩ := hl.at h
      rw [e] at e'
      cases e'
      exact .inl hb
  have HC := Lib.hid (fun p q W t u (h : Below w.heap.size w W) h1 h2 h3 h4 => fault_contains base cap l n p q w.heap.size t u W (hl.keep h) h1 hbl h2 h3 h4)
  clear hl hbl
  go_enter Tryd.func101, Tryd.ntmps101
  go_wp2_with fail
  refine (HC.out (w.heap.size + 1) w.heap.size _ 3 3 (by (repeat (first | (with_reducible exact Below.refl _ _) | (with_reducible assumption) | (with_reducible refine below_alloc ?_ _) | (with_reducible refine below_drewN ?_ _) | (with_reducible refine Below.drew ?_) | (with_reducible refine below_then ?_ (by with_reducible assumption)) | (with_reducible refine Below.setCell ?_ (by go_size) _)))) (Nat.le_succ _) ?b1 ?b2 (by omega)).mono ?_
  case b1 =>
    have := Blk.new (w.alloc (.cells #[.int .i64 n] 3)) 3 #[.int .i64 (-1)]
    simpa using this
  case b2 => exact (Blk.new w _ _).alloc _
  rintro e w1 ⟨rfl, hb⟩
  have hB := (show Below w.heap.size w _ by (repeat (first | (with_reducible exact Below.refl _ _) | (with_reducible assumption) | (with_reducible refine below_alloc ?_ _) | (with_reducible refine below_drewN ?_ _) | (with_reducible refine Below.drew ?_) | (with_reducible refine below_then ?_ (by with_reducible assumption)) | (with_reducible refine Below.setCell ?_ (by go_size) _)))).trans hb
  go_wp2_with fail
  go_returns
  exact ⟨by simp, hB⟩
end
end Go.Proofs.YthabpiphfaedaaaDoor
