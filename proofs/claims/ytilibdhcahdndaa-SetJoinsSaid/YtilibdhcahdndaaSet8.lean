/- REF 03: sets joined, met, within, with their errors. -/
import Derived.Test.YtilibdhcahdndaaSet7
namespace Go.Proofs.Ytilibdhcahdndaa
open Go.RowKit Go.Shelf

/-- What the document joins. -/
def refJoin (x y z : Bool) (n : Int) (a b : List Nat) : List Nat :=
  if sChk2 n a b = 0 then fillTo (nWords n) (fun i => rule x y z (there a i) (there b i)) n.toNat else []
def refHit (n : Int) (a b : List Nat) : Bool := if sChk2 n a b = 0 then hit true (nums a) b else false
def refIn (n : Int) (a b : List Nat) : Bool := if sChk2 n a b = 0 then !hit false (nums a) b else false

set_option maxRecDepth 100000 in set_option maxHeartbeats 4000000 in
theorem ref03_And (n : Int) (ba bb : Option Addr) (ca cb : Nat) (a b : List Nat) (w : World) (ha : SetIn w ba a) (hb : SetIn w bb b) :
    Calls Try.prog 11 #[.int .i64 n, .slice ba a.length ca, .slice bb b.length cb] w (RUE w (refJoin true false false n a b) (sChk2 n a b)) := by
  have H2 := Lib.hid (ref03_two n ba bb ca cb a b w ha hb)
  by_cases h : sChk2 n a b = 0
  · have hq := Lib.hid (show refJoin true false false n a b = _ from if_pos h)
    have HJ := Lib.hid (ref03_joined_And n ba bb ca cb a b w ha hb (sMay_len (sChk2_0 h).1).1)
    have hm : (sChk2 n a b != 0) = false := by rw [h]; rfl
    have h0 := Lib.hid h
    clear ha hb h
    go_enter Try.func11, Try.ntmps11
    go_wp2_with fail
    refine H2.out.mono ?_
    rintro e w1 ⟨rfl, rfl⟩
    go_wp2_with fail
    refine HJ.out.mono ?_
    rintro e w1 ⟨v, rfl, ho, hb1⟩
    go_wp2_with fail
    go_returns
    exact ⟨v, by rw [h0.out]; rfl, by rw [hq.out]; exact ho, hb1⟩
  · have hq := Lib.hid (show refJoin true false false n a b = [] from if_neg h)
    have hm : (sChk2 n a b != 0) = true := by simpa using h
    clear ha hb h
    go_enter Try.func11, Try.ntmps11
    go_wp2_with fail
    refine H2.out.mono ?_
    rintro e w1 ⟨rfl, rfl⟩
    go_wp2_with fail
    go_returns
    exact ⟨_, rfl, by rw [hq.out]; exact World.ownsRow_nil _ _ _ _, by (repeat (first | (with_reducible exact Below.refl _ _) | (with_reducible assumption) | (with_reducible refine below_alloc ?_ _) | (with_reducible refine below_drewN ?_ _) | (with_reducible refine Below.drew ?_) | (with_reducible refine below_then ?_ (by with_reducible assumption)) | (with_reducible refine Below.setCell ?_ (by go_size) _)))⟩

set_option maxRecDepth 100000 in set_option maxHeartbeats 4000000 in
theorem ref03_Or (n : Int) (ba bb : Option Addr) (ca cb : Nat) (a b : List Nat) (w : World) (ha : SetIn w ba a) (hb : SetIn w bb b) :
    Calls Try.prog 13 #[.int .i64 n, .slice ba a.length ca, .slice bb b.length cb] w (RUE w (refJoin true true true n a b) (sChk2 n a b)) := by
  have H2 := Lib.hid (ref03_two n ba bb ca cb a b w ha hb)
  by_cases h : sChk2 n a b = 0
  · have hq := Lib.hid (show refJoin true true true n a b = _ from if_pos h)
    have HJ := Lib.hid (ref03_joined_Or n ba bb ca cb a b w ha hb (sMay_len (sChk2_0 h).1).1)
    have hm : (sChk2 n a b != 0) = false := by rw [h]; rfl
    have h0 := Lib.hid h
    clear ha hb h
    go_enter Try.func13, Try.ntmps13
    go_wp2_with fail
    refine H2.out.mono ?_
    rintro e w1 ⟨rfl, rfl⟩
    go_wp2_with fail
    refine HJ.out.mono ?_
    rintro e w1 ⟨v, rfl, ho, hb1⟩
    go_wp2_with fail
    go_returns
    exact ⟨v, by rw [h0.out]; rfl, by rw [hq.out]; exact ho, hb1⟩
  · have hq := Lib.hid (show refJoin true true true n a b = [] from if_neg h)
    have hm : (sChk2 n a b != 0) = true := by simpa using h
    clear ha hb h
    go_enter Try.func13, Try.ntmps13
    go_wp2_with fail
    refine H2.out.mono ?_
    rintro e w1 ⟨rfl, rfl⟩
    go_wp2_with fail
    go_returns
    exact ⟨_, rfl, by rw [hq.out]; exact World.ownsRow_nil _ _ _ _, by (repeat (first | (with_reducible exact Below.refl _ _) | (with_reducible assumption) | (with_reducible refine below_alloc ?_ _) | (with_reducible refine below_drewN ?_ _) | (with_reducible refine Below.drew ?_) | (with_reducible refine below_then ?_ (by with_reducible assumption)) | (with_reducible refine Below.setCell ?_ (by go_size) _)))⟩

set_option maxRecDepth 100000 in set_option maxHeartbeats 4000000 in
theorem ref03_Less (n : Int) (ba bb : Option Addr) (ca cb : Nat) (a b : List Nat) (w : World) (ha : SetIn w ba a) (hb : SetIn w bb b) :
    Calls Try.prog 15 #[.int .i64 n, .slice ba a.length ca, .slice bb b.length cb] w (RUE w (refJoin false true false n a b) (sChk2 n a b)) := by
  have H2 := Lib.hid (ref03_two n ba bb ca cb a b w ha hb)
  by_cases h : sChk2 n a b = 0
  · have hq := Lib.hid (show refJoin false true false n a b = _ from if_pos h)
    have HJ := Lib.hid (ref03_joined_Less n ba bb ca cb a b w ha hb (sMay_len (sChk2_0 h).1).1)
    have hm : (sChk2 n a b != 0) = false := by rw [h]; rfl
    have h0 := Lib.hid h
    clear ha hb h
    go_enter Try.func15, Try.ntmps15
    go_wp2_with fail
    refine H2.out.mono ?_
    rintro e w1 ⟨rfl, rfl⟩
    go_wp2_with fail
    refine HJ.out.mono ?_
    rintro e w1 ⟨v, rfl, ho, hb1⟩
    go_wp2_with fail
    go_returns
    exact ⟨v, by rw [h0.out]; rfl, by rw [hq.out]; exact ho, hb1⟩
  · have hq := Lib.hid (show refJoin false true false n a b = [] from if_neg h)
    have hm : (sChk2 n a b != 0) = true := by simpa using h
    clear ha hb h
    go_enter Try.func15, Try.ntmps15
    go_wp2_with fail
    refine H2.out.mono ?_
    rintro e w1 ⟨rfl, rfl⟩
    go_wp2_with fail
    go_returns
    exact ⟨_, rfl, by rw [hq.out]; exact World.ownsRow_nil _ _ _ _, by (repeat (first | (with_reducible exact Below.refl _ _) | (with_reducible assumption) | (with_reducible refine below_alloc ?_ _) | (with_reducible refine below_drewN ?_ _) | (with_reducible refine Below.drew ?_) | (with_reducible refine below_then ?_ (by with_reducible assumption)) | (with_reducible refine Below.setCell ?_ (by go_size) _)))⟩

set_option maxRecDepth 100000 in set_option maxHeartbeats 4000000 in
theorem ref03_Meet (n : Int) (ba bb : Option Addr) (ca cb : Nat) (a b : List Nat) (w : World) (ha : SetIn w ba a) (hb : SetIn w bb b) (hl : a.length ≤ 10000) :
    Calls Try.prog 17 #[.int .i64 n, .slice ba a.length ca, .slice bb b.length cb] w (RB w (.tuple #[.bool (refHit n a b), .int .i64 (sChk2 n a b)])) := by
  have H2 := Lib.hid (ref03_two n ba bb ca cb a b w ha hb)
  have HJ := Lib.hid (ref03_Meets ba bb ca cb a b w ha hb hl)
  by_cases h : sChk2 n a b = 0
  · have hq := Lib.hid (show refHit n a b = _ from if_pos h)
    have hm : (sChk2 n a b != 0) = false := by rw [h]; rfl
    have h0 := Lib.hid h
    clear ha hb h
    go_enter Try.func17, Try.ntmps17
    go_wp2_with fail
    refine H2.out.mono ?_
    rintro e w1 ⟨rfl, rfl⟩
    go_wp2_with fail
    refine HJ.out.mono ?_
    rintro e w1 ⟨rfl, hb1⟩
    go_wp2_with fail
    go_returns
    exact ⟨by rw [h0.out, hq.out]; rfl, hb1⟩
  · have hq := Lib.hid (show refHit n a b = false from if_neg h)
    have hm : (sChk2 n a b != 0) = true := by simpa using h
    clear ha hb h
    go_enter Try.func17, Try.ntmps17
    go_wp2_with fail
    refine H2.out.mono ?_
    rintro e w1 ⟨rfl, rfl⟩
    go_wp2_with fail
    go_returns
    exact ⟨by rw [hq.out]; rfl, by (repeat (first | (with_reducible exact Below.refl _ _) | (with_reducible assumption) | (with_reducible refine below_alloc ?_ _) | (with_reducible refine below_drewN ?_ _) | (with_reducible refine Below.drew ?_) | (with_reducible refine below_then ?_ (by with_reducible assumption)) | (with_reducible refine Below.setCell ?_ (by go_size) _)))⟩

set_option maxRecDepth 100000 in set_option maxHeartbeats 4000000 in
theorem ref03_In (n : Int) (ba bb : Option Addr) (ca cb : Nat) (a b : List Nat) (w : World) (ha : SetIn w ba a) (hb : SetIn w bb b) (hl : a.length ≤ 10000) :
    Calls Try.prog 19 #[.int .i64 n, .slice ba a.length ca, .slice bb b.length cb] w (RB w (.tuple #[.bool (refIn n a b), .int .i64 (sChk2 n a b)])) := by
  have H2 := Lib.hid (ref03_two n ba bb ca cb a b w ha hb)
  have HJ := Lib.hid (ref03_Inside ba bb ca cb a b w ha hb hl)
  by_cases h : sChk2 n a b = 0
  · have hq := Lib.hid (show refIn n a b = _ from if_pos h)
    have hm : (sChk2 n a b != 0) = false := by rw [h]; rfl
    have h0 := Lib.hid h
    clear ha hb h
    go_enter Try.func19, Try.ntmps19
    go_wp2_with fail
    refine H2.out.mono ?_
    rintro e w1 ⟨rfl, rfl⟩
    go_wp2_with fail
    refine HJ.out.mono ?_
    rintro e w1 ⟨rfl, hb1⟩
    go_wp2_with fail
    go_returns
    exact ⟨by rw [h0.out, hq.out]; rfl, hb1⟩
  · have hq := Lib.hid (show refIn n a b = false from if_neg h)
    have hm : (sChk2 n a b != 0) = true := by simpa using h
    clear ha hb h
    go_enter Try.func19, Try.ntmps19
    go_wp2_with fail
    refine H2.out.mono ?_
    rintro e w1 ⟨rfl, rfl⟩
    go_wp2_with fail
    go_returns
    exact ⟨by rw [hq.out]; rfl, by (repeat (first | (with_reducible exact Below.refl _ _) | (with_reducible assumption) | (with_reducible refine below_alloc ?_ _) | (with_reducible refine below_drewN ?_ _) | (with_reducible refine Below.drew ?_) | (with_reducible refine below_then ?_ (by with_reducible assumption)) | (with_reducible refine Below.setCell ?_ (by go_size) _)))⟩
end Go.Proofs.Ytilibdhcahdndaa
