/- SetBack: List and Of are each other's way back; a set is told by its numbers, which rise: the call returns true. -/
import Derived.Test.YtilibdhcahdndaaDoorSetBackLaw
import Derived.Test.YtilibdhcahdndaaDoorSetSays
import Derived.Test.YtilibdhcahdndaaDoorSetAlive
import Derived.Test.YtilibdhcahdndaaDoorRowTab
import Derived.Deep.DeepCutAuto
namespace Go.Proofs.YtilibdhcahdndaaDoor
open Go.ChangeShapes Go.WideShapes Go.ChangeAt Go.RowKit Go.Shelf

/-- Is a number among a list's first ones? -/
def amid (l : List Int) (x : Int) (k : Nat) : Bool := (l.take k).any (fun y => y == x)
theorem amid_zero (l : List Int) (x : Int) : amid l x 0 = false := by simp [amid]
theorem amid_succ (l : List Int) (x : Int) (k : Nat) (h : k < l.length) : amid l x (k + 1) = (amid l x k || (l[k] == x)) := by
  unfold amid; rw [List.take_succ_eq_append_getElem h, List.any_append]; simp
theorem amid_all {l : List Int} {x : Int} (h : x ∈ l) : amid l x l.length = true := by
  unfold amid; rw [List.take_length, List.any_eq_true]; exact ⟨x, h, by simp⟩
theorem rise_next {l : List Int} (h : l.Pairwise (· < ·)) {k : Nat} (hk : k + 1 < l.length) : l[k] < l[k + 1] :=
  List.pairwise_iff_getElem.1 h k (k + 1) (by omega) hk (by omega)

def SaysList (n : Int) (ws : List Nat) (l : List Int) (e : Int) : Prop := ∀ (W : World) (b : Option Addr) (c : Nat), SetIn W b ws → TabAt 0 Lib.deBruijn64tab W → 0 < W.heap.size → Calls Tryd.prog 9 #[.int .i64 n, .slice b ws.length c] W (RIE W l e)
def SaysOf (n : Int) (l : List Int) (ws : List Nat) (e : Int) : Prop := ∀ (W : World) (b : Option Addr) (c : Nat), LIn W b l → Calls Tryd.prog 10 #[.int .i64 n, .slice b l.length c] W (RUE W ws e)
theorem saysList (n : Int) (ws : List Nat) : SaysList n ws (listV n ws) (sChk n ws) := fun W b c h ht hg => set_List n b c ws W h ht hg
theorem saysOf (n : Int) (l : List Int) : SaysOf n l (ofSet n l) (ofErr n l) := fun W b c h => set_Of n b c l W h

/-- What is known of a set's own numbers. -/
structure Forth (n : Int) (s : List Nat) (m : List Int) : Prop where
  back : SaysOf n m s 0
  rise : m.Pairwise (· < ·)
/-- What is known of a list's set. -/
structure Back (n : Int) (l : List Int) (t : List Nat) (o : List Int) : Prop where
  forth : SaysList n t o 0
  len : o.length ≤ l.length
  has : ∀ x ∈ l, SaysHas n x t true 0
  mem : ∀ x ∈ o, x ∈ l
def Whether (n : Int) (s : List Nat) (m : List Int) (e : Int) : Prop := (e = 0 ∧ Forth n s m) ∨ (e == 0) = false
def Either (n : Int) (l : List Int) (t : List Nat) (o : List Int) (e : Int) : Prop := (e = 0 ∧ Back n l t o) ∨ ((e != 0) = true ∧ t = [])

set_option maxRecDepth 100000 in set_option maxHeartbeats 4000000 in
theorem law03_SetBack_in (n : Int) (bs bl : Option Addr) (cs cl : Nat) (s : List Nat) (l : List Int) (w : World) (hs : SetIn w bs s) (hl : LIn w bl l) (l1 : s.length ≤ 300) (l2 : l.length ≤ 1000)
    (m o : List Int) (t : List Nat) (e f : Int) (ml : m.length ≤ 12288) (tl : t.length ≤ 192) (ft : W64 t) (h1 : SaysList n s m e) (h2 : SaysOf n l t f)
    (hw : Whether n s m e) (he : Either n l t o f)
    (hT : TabAt 0 Lib.deBruijn64tab w) (hg : 0 < w.heap.size) :
    Calls Tryd.prog 3 #[.int .i64 n, .slice bs s.length cs, .slice bl l.length cl] w (RB w (.bool true)) := by
  (have HS := Lib.hid hs; have HL := Lib.hid hl; have HB := Lib.hid hT; clear hs hl hT)
  have HW := Lib.hid hw
  have HE := Lib.hid he
  have FT := Lib.hid ft
  have H1 := Lib.hid h1
  have H2 := Lib.hid h2
  clear hw he ft h1 h2
  go_enter Tryd.func3, Tryd.ntmps3
  go_wp2_with fail
  refine (law03_alive _ HB.out hg).mono ?_
  rintro e1 w1 ⟨rfl, hb1⟩
  have HF := Lib.hid hb1
  (have HS := Lib.hid (HS.out.keep hb1)); (have HL := Lib.hid (HL.out.keep hb1))
  clear hb1
  go_upto_region 4 with (refine wp_region_quiet_lit (by kernel_rfl) (by kernel_rfl) ?_; (repeat (any_goals (first | go_big_quiet_step (fail) | quiet_step (fail) | (refine wpQuiet_step (fun K hK => ?_); go_simp; split <;> (refine hK _ ?_; clear hK K))))); all_goals (refine wpQuiet_nil ?_; intro _ hw'; obtain ⟨nq, hw''⟩ := hw'; subst hw''))
  go_wp2_with fail
  refine (H1.out _ _ _ HS.out (tab_keep HB.out hg HF.out) (Nat.lt_of_lt_of_le hg HF.out.size)).mono ?_
  rintro e2 w2 ⟨v2, rfl, q2, hb1⟩
  obtain ⟨b2, k2, rfl, s2, _⟩ := list_of_own q2 (by omega)
  have S2 := Lib.hid s2
  have HF := Lib.hid (below_then HF.out hb1)
  (have HS := Lib.hid (HS.out.keep hb1)); (have HL := Lib.hid (HL.out.keep hb1))
  clear hb1 q2 s2
  go_upto_if 44 with fail
  go_cut [] (fun wx => Below w2.heap.size w2 wx)
  case first =>
    rcases HW.out with ⟨rfl, hm⟩ | he
    · have HM := Lib.hid hm
      clear hm
      go_wp2_with fail
      refine (HM.out.back _ _ _ S2.out).mono ?_
      rintro e3 w3 ⟨v3, rfl, q3, hb1⟩
      obtain ⟨b3, k3, rfl, s3, _⟩ := set_of_own q3 (by omega) HS.out.fit
      have S3 := Lib.hid s3
      have HG := Lib.hid hb1
      (have HS := Lib.hid (HS.out.keep hb1)); (have S2 := Lib.hid (S2.out.keep hb1))
      clear hb1 q3 s3
      go_wp2_with fail
      refine (Calls.rb_eq (ref03_Same _ _ _ _ s s _ HS.out S3.out) (show Value.bool (decide (s = s)) = .bool true by simp)).mono ?_
      rintro e4 w4 ⟨rfl, hb1⟩
      have HG := Lib.hid (below_then HG.out hb1)
      (have S2 := Lib.hid (S2.out.keep hb1))
      clear hb1
      go_wp2_with fail
      go_loopw [12] (fun i wr => ∃ k : Nat, 1 ≤ k ∧ (k ≤ m.length ∨ k = 1) ∧ i = .int .i64 k ∧ ∃ q, wr = w4.drewN q) (fun i _ => m.length - (intOf i).toNat)
      case atStart => exact ⟨1, by omega, .inr rfl, rfl, 0, rfl⟩
      case round =>
        obtain ⟨k, hk1, hk2, rfl, q, rfl⟩ := hrel
        by_cases hlt : k < m.length
        · have hr := rise_next HM.out.rise (k := k - 1) (by omega)
          obtain ⟨bA, oA, rfl, hca⟩ := S2.out.rd (k - 1) _ (getElem?_map_int (by omega))
          obtain ⟨bB, oB, e, hcb⟩ := S2.out.rd k _ (getElem?_map_int hlt)
          cases e
          have e1 : k - 1 + 1 = k := by omega
          simp only [e1] at hr
          obtain ⟨x, hx⟩ : ∃ x, x = m[k - 1] := ⟨_, rfl⟩
          obtain ⟨y, hy⟩ : ∃ y, y = m[k] := ⟨_, rfl⟩
          rw [← hx] at hr hca
          rw [← hy] at hr hcb
          have e2 : (k : Int) - 1 = ((k - 1 : Nat) : Int) := by omega
          clear hx hy e1
          go_wp2_with (refine wp_region_quiet_lit (by kernel_rfl) (by kernel_rfl) ?_; (repeat (any_goals (first | go_big_quiet_step (fail) | quiet_step (fail) | (refine wpQuiet_step (fun K hK => ?_); go_simp; split <;> (refine hK _ ?_; clear hK K))))); all_goals (refine wpQuiet_nil ?_; intro _ hw'; obtain ⟨nq, hw''⟩ := hw'; subst hw''))
          all_goals
            go_roundw
            case rel => exact ⟨k + 1, by omega, by omega, by go_num, _, rfl⟩
            case measure => simp [intOf]; omega
        · go_wp2_with fail
          go_meet
          exact below_drewN HG.out _
    · go_wp2_with fail
      go_meet
      exact Below.refl _ _
  case rest =>
    have HF := Lib.hid (below_then HF.out hcut)
    (have HL := Lib.hid (HL.out.keep hcut))
    clear hcut
    go_wp2_with fail
    refine (H2.out _ _ _ HL.out).mono ?_
    rintro e5 w5 ⟨v5, rfl, q5, hb1⟩
    obtain ⟨b5, k5, rfl, s5, _⟩ := set_of_own q5 (by omega) FT.out
    have S5 := Lib.hid s5
    have HF := Lib.hid (below_then HF.out hb1)
    (have HL := Lib.hid (HL.out.keep hb1))
    clear hb1 q5 s5
    rcases HE.out with ⟨rfl, hk⟩ | ⟨he, rfl⟩
    · have HK := Lib.hid hk
      have ol := hk.len
      clear hk
      go_wp2_with fail
      refine (HK.out.forth _ _ _ S5.out (tab_keep HB.out hg HF.out) (Nat.lt_of_lt_of_le hg HF.out.size)).mono ?_
      rintro e6 w6 ⟨v6, rfl, q6, hb1⟩
      obtain ⟨b6, k6, rfl, s6, _⟩ := list_of_own q6 (by omega)
      have S6 := Lib.hid s6
      have HF := Lib.hid (below_then HF.out hb1)
      (have HL := Lib.hid (HL.out.keep hb1)); (have S5 := Lib.hid (S5.out.keep hb1))
      have hol : decide (l.length < o.length) = false := by rw [decide_eq_false_iff_not]; omega
      clear hb1 q6 s6
      go_wp2_with (refine wp_region_quiet_lit (by kernel_rfl) (by kernel_rfl) ?_; (repeat (any_goals (first | go_big_quiet_step (fail) | quiet_step (fail) | (refine wpQuiet_step (fun K hK => ?_); go_simp; split <;> (refine hK _ ?_; clear hK K))))); all_goals (refine wpQuiet_nil ?_; intro _ hw'; obtain ⟨nq, hw''⟩ := hw'; subst hw''))
      go_loopw [17] (fun i wr => ∃ k : Nat, k ≤ l.length ∧ i = .int .i64 k ∧ Below w6.heap.size w6 wr) (fun i _ => l.length - (intOf i).toNat)
      case atStart => exact ⟨0, Nat.zero_le _, rfl, Below.refl _ _⟩
      case round =>
        obtain ⟨k, hk, rfl, hbw⟩ := hrel
        have HBW := Lib.hid hbw
        by_cases hlt : k < l.length
        · obtain ⟨bA, oA, rfl, hca⟩ := (HL.out.keep hbw).rd k _ (getElem?_map_int hlt)
          have HX := Lib.hid (HK.out.has l[k] (List.getElem_mem hlt))
          obtain ⟨x, hx⟩ : ∃ x, x = l[k] := ⟨_, rfl⟩
          rw [← hx] at HX hca
          clear hx hbw
          go_wp2_with fail
          refine (HX.out _ _ _ (S5.out.keep HBW.out)).mono ?_
          rintro e7 w7 ⟨rfl, hb7⟩
          go_wp2_with fail
          go_roundw
          case rel => exact ⟨k + 1, by omega, by go_num, below_then HBW.out hb7⟩
          case measure => simp [intOf]; omega
        · clear hbw
          have HF := Lib.hid (below_then HF.out HBW.out)
          have HL := Lib.hid (HL.out.keep HBW.out)
          have S6 := Lib.hid (S6.out.keep HBW.out)
          clear HBW
          obtain ⟨wo, hwo⟩ : ∃ wo : World, wo = wr := ⟨_, rfl⟩
          subst hwo
          go_wp2_with fail
          go_loopw [20] (fun i wr => ∃ k : Nat, k ≤ o.length ∧ i = .int .i64 k ∧ ∃ q, wr = wo.drewN q) (fun i _ => o.length - (intOf i).toNat)
          case atStart => exact ⟨0, Nat.zero_le _, rfl, 0, rfl⟩
          case round =>
            obtain ⟨i, hi, rfl, q, rfl⟩ := hrel
            by_cases hlt2 : i < o.length
            · obtain ⟨bA, oA, rfl, hca⟩ := S6.out.rd i _ (getElem?_map_int hlt2)
              have HM := Lib.hid (amid_all (HK.out.mem o[i] (List.getElem_mem hlt2)))
              obtain ⟨x, hx⟩ : ∃ x, x = o[i] := ⟨_, rfl⟩
              rw [← hx] at hca HM
              clear hx
              go_wp2_with fail
              go_loopw [21, 22] (fun b j wr => ∃ (k : Nat) (z : Bool), k ≤ l.length ∧ j = .int .i64 k ∧ b = .bool z ∧ z = amid l x k ∧ ∃ q, wr = wo.drewN q) (fun _ j _ => l.length - (intOf j).toNat)
              case atStart => exact ⟨0, _, Nat.zero_le _, rfl, rfl, (amid_zero _ _).symm, q, rfl⟩
              case round =>
                obtain ⟨j, z, hj, rfl, rfl, hz, q2, rfl⟩ := hrel
                have HZ := Lib.hid hz
                clear hz
                by_cases hlt3 : j < l.length
                · obtain ⟨bB, oB, rfl, hcb⟩ := HL.out.rd j _ (getElem?_map_int hlt3)
                  have hs := Lib.hid (amid_succ l x j hlt3)
                  obtain ⟨y, hy⟩ : ∃ y, y = l[j] := ⟨_, rfl⟩
                  rw [← hy] at hcb hs
                  clear hy
                  cases z
                  · go_wp2_with (refine wp_region_quiet_lit (by kernel_rfl) (by kernel_rfl) ?_; (repeat (any_goals (first | go_big_quiet_step (fail) | quiet_step (fail) | (refine wpQuiet_step (fun K hK => ?_); go_simp; split <;> (refine hK _ ?_; clear hK K))))); all_goals (refine wpQuiet_nil ?_; intro _ hw'; obtain ⟨nq, hw''⟩ := hw'; subst hw''))
                    all_goals
                      go_roundw
                      case rel => exact ⟨j + 1, _, by omega, by go_num, rfl, by rw [hs.out, ← HZ.out]; rfl, _, rfl⟩
                      case measure => simp [intOf]; omega
                  · go_wp2_with (refine wp_region_quiet_lit (by kernel_rfl) (by kernel_rfl) ?_; (repeat (any_goals (first | go_big_quiet_step (fail) | quiet_step (fail) | (refine wpQuiet_step (fun K hK => ?_); go_simp; split <;> (refine hK _ ?_; clear hK K))))); all_goals (refine wpQuiet_nil ?_; intro _ hw'; obtain ⟨nq, hw''⟩ := hw'; subst hw''))
                    all_goals
                      go_roundw
                      case rel => exact ⟨j + 1, _, by omega, by go_num, rfl, by rw [hs.out, ← HZ.out]; rfl, _, rfl⟩
                      case measure => simp [intOf]; omega
                · obtain rfl : j = l.length := by omega
                  obtain rfl : z = true := HZ.out.trans HM.out
                  go_wp2_with fail
                  go_roundw
                  case rel => exact ⟨i + 1, by omega, by go_num, _, rfl⟩
                  case measure => simp [intOf]; omega
            · go_wp2_with fail
              go_returns
              exact ⟨rfl, below_drewN HF.out _⟩
    · have hf2 : (f == 0) = false := by simpa using he
      go_wp2_with fail
      go_returns
      exact ⟨rfl, HF.out⟩

set_option maxRecDepth 100000 in set_option maxHeartbeats 4000000 in
theorem law03_SetBack (n : Int) (bs bl : Option Addr) (cs cl : Nat) (s : List Nat) (l : List Int) (w : World) (hs : Rd w bs (wcells s) ∧ W64 s) (hl : Rd w bl (l.map (Value.int .i64)))
    (hT : TabAt 0 Lib.deBruijn64tab w) (hg : 0 < w.heap.size) :
    Calls Tryd.prog 3 #[.int .i64 n, .slice bs s.length cs, .slice bl l.length cl] w (RB w (.bool true)) := by
  by_cases l1 : s.length ≤ 300
  · by_cases l2 : l.length ≤ 1000
    · have S := SetIn.mk hs.1 (by omega) hs.2
      have L := LIn.mk hl (by omega)
      have hwh : Whether n s (listV n s) (sChk n s) := by
        by_cases e1 : sChk n s = 0
        · left
          have hv : listV n s = nums s := if_pos e1
          obtain ⟨p1, p2⟩ := of_nums e1 hs.2
          have g := saysOf n (nums s)
          rw [p1, p2] at g
          rw [hv]
          exact ⟨e1, g, numsTo_rise _ _⟩
        · right; simpa using e1
      have hei : Either n l (ofSet n l) (listV n (ofSet n l)) (ofErr n l) := by
        by_cases e1 : ofErr n l = 0
        · left
          obtain ⟨p1, p2, p3, p4⟩ := of_back e1
          have hv : listV n (ofSet n l) = nums (ofSet n l) := if_pos p1
          have g := saysList n (ofSet n l)
          rw [p1] at g
          refine ⟨e1, g, by rw [hv]; exact p4, fun x hx => ?_, by rw [hv]; exact p3⟩
          have g2 := saysHas n x (ofSet n l)
          rw [p1, p2 x hx] at g2
          exact g2
        · right; exact ⟨by simpa using e1, if_neg e1⟩
      exact law03_SetBack_in n bs bl cs cl s l w S L l1 l2 _ _ _ _ _ (listV_len n s) (ofSet_len n l) (ofSet_fit n l) (saysList n s) (saysOf n l) hwh hei hT hg
    · have HB := Lib.hid hT
      have l2' : 1000 < l.length := by omega
      clear hs hl hT
      go_enter Tryd.func3, Tryd.ntmps3
      go_wp2_with fail
      refine (law03_alive _ HB.out hg).mono ?_
      rintro e1 w1 ⟨rfl, hb1⟩
      go_wp2_with (refine wp_region_quiet_lit (by kernel_rfl) (by kernel_rfl) ?_; (repeat (any_goals (first | go_big_quiet_step (fail) | quiet_step (fail) | (refine wpQuiet_step (fun K hK => ?_); go_simp; split <;> (refine hK _ ?_; clear hK K))))); all_goals (refine wpQuiet_nil ?_; intro _ hw'; obtain ⟨nq, hw''⟩ := hw'; subst hw''))
      all_goals
        go_returns
        exact ⟨rfl, by (repeat (first | (with_reducible exact Below.refl _ _) | (with_reducible assumption) | (with_reducible refine below_alloc ?_ _) | (with_reducible refine below_drewN ?_ _) | (with_reducible refine Below.drew ?_) | (with_reducible refine below_then ?_ (by with_reducible assumption)) | (with_reducible refine Below.setCell ?_ (by go_size) _)))⟩
  · have HB := Lib.hid hT
    have l1' : 300 < s.length := by omega
    clear hs hl hT
    go_enter Tryd.func3, Tryd.ntmps3
    go_wp2_with fail
    refine (law03_alive _ HB.out hg).mono ?_
    rintro e1 w1 ⟨rfl, hb1⟩
    go_wp2_with (refine wp_region_quiet_lit (by kernel_rfl) (by kernel_rfl) ?_; (repeat (any_goals (first | go_big_quiet_step (fail) | quiet_step (fail) | (refine wpQuiet_step (fun K hK => ?_); go_simp; split <;> (refine hK _ ?_; clear hK K))))); all_goals (refine wpQuiet_nil ?_; intro _ hw'; obtain ⟨nq, hw''⟩ := hw'; subst hw''))
    all_goals
      go_returns
      exact ⟨rfl, by (repeat (first | (with_reducible exact Below.refl _ _) | (with_reducible assumption) | (with_reducible refine below_alloc ?_ _) | (with_reducible refine below_drewN ?_ _) | (with_reducible refine Below.drew ?_) | (with_reducible refine below_then ?_ (by with_reducible assumption)) | (with_reducible refine Below.setCell ?_ (by go_size) _)))⟩

set_option maxRecDepth 100000 in set_option maxHeartbeats 4000000 in
theorem lift_setBack (os : Os) (started : os.Started) (H : Type) (enc : TypeId × Value → H) (F : Stop.Interp) :
    ReturnsInHanded {} Tryd.checked os 3 .any ((OpenSpec.ofChange Rows.setBackSpec).preRow enc Tryd.prog Tryd.f3 Rows.setBackRow.domain false Rows.setBackRow.laid) (((OpenSpec.ofChange Rows.setBackSpec).at F).post enc Tryd.prog Tryd.f3 false true false false) := by
  obtain ⟨places, hx⟩ : ∃ places, DataW.whole enc Tryd.prog ((laidWorld os).forCall (fun _ _ => 0) ⟨#[], #[.int .i64 0, .slice none 0 0, .slice none 0 0], []⟩).memory Tryd.f3.params.toList Rows.setBackSpec.vars false #[.int .i64 0, .slice none 0 0, .slice none 0 0].toList 8 = some ([.lit (.int .i64 0), .nil, .nil], [], places) := ⟨[], by kernel_rfl⟩
  refine returnsInHanded_of_row (C := Tryd.checked) (s := OpenSpec.ofChange Rows.setBackSpec) ownKnob0 started (by kernel_rfl) Tryd.func3
    (witness_row_at (enc := enc) (C := Tryd.checked) false (laidWorld os) #[.int .i64 0, .slice none 0 0, .slice none 0 0] rfl (by kernel_rfl) (by kernel_rfl) (by kernel_rfl)
      (OpenSpec.preRow_of_cond 8 hx (by kernel_rfl) (fun k hk => by cases hk) (by kernel_rfl) (laidMet_of_run' 8 (by kernel_rfl) (by kernel_rfl)))) ?_
  intro W base args ds gs before hval0 hW _ _ _ hL0 _ _
  have hval : ∀ (j : Nat) t v, Tryd.f3.params[j]? = some t → args[j]? = some v → Value.okWide Tryd.prog W .any base t v := hval0
  have hT := tab_of_laid (W := W) hL0
  have hg := tab_lt hT
  have hW' := hW
  obtain ⟨p, q, hA0, hV, rfl, hfz, hnd⟩ := hW
  have hA : DataW.TrodAll enc Tryd.prog W 0 (fun _ => true) true Tryd.f3.params.toList args.toList ds p := hA0
  rw [Tryd.params3] at hA hval
  have hK := hA
  obtain ⟨v0, vs0, d0, ds0, p0, q0, hargs, rfl, rfl, h0, r0⟩ := trodAll_cons hA
  obtain ⟨v1, vs1, d1, ds1, p1, q1, rfl, rfl, rfl, h1, r1⟩ := trodAll_cons r0
  obtain ⟨v2, vs2, d2, ds2, p2, q2, rfl, rfl, rfl, h2, r2⟩ := trodAll_cons r1
  obtain ⟨rfl, rfl, rfl⟩ := trodAll_nil r2
  obtain rfl : args = #[v0, v1, v2] := by cases args; simp_all
  obtain ⟨n, rfl⟩ := okWide_int Tryd.underlying3 (hval 0 _ v0 rfl rfl)
  obtain ⟨bs, s, cs, rfl, hs, _⟩ := open_set (hval 1 _ v1 rfl rfl) h1
  obtain ⟨bl, l, cl, rfl, hl, _, _, _⟩ := open_row Tryd.underlying24 Tryd.underlying3 (by kernel_rfl) (hval 2 _ v2 rfl rfl) h2
  obtain ⟨rfl, rfl⟩ := trodVars_none hV
  clear hA0 hval0
  simp only [List.append_nil] at hW'
  refine (law03_SetBack n bs bl cs cl s l W hs hl hT hg).mono fun e W' ⟨he, bel⟩ => ?_
  subst he
  refine ⟨_, rfl, _, _, _, [], _, [], hW', trodAll_mk1 (shut_bool Tryd.underlying4 _), trodAll_below bel _ _ _ _ ?_ hK, rfl, bel.frame _, fun h => by cases h⟩
  intro t ht
  simp at ht <;> (rcases ht with rfl | rfl | rfl <;> exact ⟨by kernel_rfl, of_decide_eq_true (by kernel_rfl)⟩)

theorem said_setBack : Rows.SetBackSaid :=
  OpenClaim.holds_of_cond 3 Tryd.f3 rfl rfl rfl rfl rfl rfl rfl ⟨rfl, rfl, rfl, rfl, rfl⟩ rfl rfl rfl rfl rfl (by kernel_rfl) Tryd.func3 (by kernel_rfl)
    (of_decide_eq_true (by kernel_rfl)) (by unfold Func.isWrapper; first | (rw [if_pos (by decide +kernel)]; kernel_rfl) | (rw [if_neg (by decide +kernel)]; exact ⟨rfl, rfl⟩))
    (fun os started H enc _ F => by rw [OpenClaim.pre_eq_preRow]; exact lift_setBack os started H enc F)

theorem plain_setBack (f : FuncId) (fn : Func) (hf : Tryd.pinned.checked.prog.funcNamed "tidehall/tidehalllaw03.SetBack" = some f) (hfn : Tryd.pinned.checked.prog.funcs[f]? = some fn) :
    false = Tryd.pinned.checked.prog.looks [] ∧ ∀ (j : Nat) t, fn.params[j]? = some t → Tryd.pinned.checked.prog.wantsStandIn t = false := by
  obtain rfl : f = 3 := Option.some.inj ((show Tryd.prog.funcNamed "tidehall/tidehalllaw03.SetBack" = some 3 by kernel_rfl).symm.trans hf) |>.symm
  obtain rfl : fn = Tryd.f3 := (Option.some.inj (Tryd.func3.symm.trans hfn)).symm
  refine ⟨by kernel_rfl, fun j t ht => ?_⟩
  rw [Tryd.params3] at ht
  have hm := Array.mem_of_getElem? ht
  simp at hm <;> (rcases hm with rfl | rfl | rfl <;> exact (show Tryd.prog.wantsStandIn _ = false by kernel_rfl))

theorem SetBack_holds : Rows.SetBackCardSaid :=
  Claim7.holds_tied_plain_at .later [] _ _ _ _ said_setBack (fun _ h => by cases h) (by kernel_rfl) (fun _ h => by cases h) setBack_row_tie rfl ⟨rfl, rfl⟩ (by kernel_rfl) rfl plain_setBack (by kernel_rfl)
end Go.Proofs.YtilibdhcahdndaaDoor
