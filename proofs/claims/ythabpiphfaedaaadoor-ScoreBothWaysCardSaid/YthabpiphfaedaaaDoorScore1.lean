/- SCORE: the sides of a midplane, one after another: the iterator's contract. -/
import Derived.Test.YthabpiphfaedaaaDoorPosBack
import Derived.Test.YthabpiphfaedaaaDoorScoreLaw
import Derived.Test.YthabpiphfaedaaaDoorKeeps
import Derived.Test.YthabpiphfaedaaaDoorPosW1
namespace Go.Proofs.YthabpiphfaedaaaDoor
open Go.RowKit Go.Shelf
attribute [local go_sem] Oper.semAt_some

/-- What is still to come where an axis is begun. -/
def V3.remS (d : V3) (m : Int) : Nat → List Int
  | 0 => sidesV d m
  | 1 => sidesOf d m 1 ++ sidesOf d m 2
  | 2 => sidesOf d m 2
  | _ => []
theorem V3.remS_succ (d : V3) (m : Int) {k : Nat} (hk : k < 3) : d.remS m k = sidesOf d m k ++ d.remS m (k + 1) := by
  match k, hk with
  | 0, _ => rfl
  | 1, _ => rfl
  | 2, _ => exact (List.append_nil _).symm
theorem grown_of_below {W W' : World} (hb : Below W.heap.size W W') : W.grownBy W' none := ⟨hb.os, hb.tape, hb.output, hb.size, fun k hk _ => hb.block k hk⟩
theorem sidesV_le (d : V3) (m : Int) : (sidesV d m).length ≤ 6 := by
  have h : ∀ k, (sidesOf d m k).length ≤ 2 := fun k => by unfold sidesOf; split <;> simp
  unfold sidesV
  rw [List.length_append, List.length_append]
  have := h 0; have := h 1; have := h 2
  omega
def encS (x : Int) : Array Value := #[.int .i64 x]
theorem sides_split {d : V3} {m : Int} {pre rest R : List Int} (hx : sidesV d m = pre ++ rest) {x : Int} (hr : rest = x :: R) : pre.length < 6 ∧ sidesV d m = (pre ++ [x]) ++ R := by
  subst hr
  refine ⟨?_, by rw [hx]; simp⟩
  have := sidesV_le d m
  rw [hx, List.length_append, List.length_cons] at this
  omega
theorem dims_idx (d : V3) (k : Nat) (hk : k < 3) : [Value.int IntKind.i64 d.x, Value.int IntKind.i64 d.y, Value.int IntKind.i64 d.z][k]'(by simpa using hk) = .int .i64 (d.at k) := by
  match k, hk with
  | 0, _ => rfl
  | 1, _ => rfl
  | 2, _ => rfl
theorem by_idx {j : Nat} (hj : j < 2) (b : Int) (hb : b = if j = 0 then 1 else -1) : [Value.int IntKind.i64 1, Value.int IntKind.i64 (-1)][j]'(by simpa using hj) = .int .i64 b := by
  subst hb
  match j, hj with
  | 0, _ => rfl
  | 1, _ => rfl
theorem side_at {d : V3} {m : Int} {R : List Int} (HF : ∀ (k : Nat) (_ : k < 3) W, Calls Tryd.prog 55 #[.agg #[.int .i64 d.x, .int .i64 d.y, .int .i64 d.z], .int .i64 m, .int .i64 k, .int .i64 1] W (RB W (.tuple #[.int .i64 (d.step m k 1), .int .i64 0])))
    (HB : ∀ (k : Nat) (_ : k < 3) (_ : d.at k ≠ 1) W, Calls Tryd.prog 55 #[.agg #[.int .i64 d.x, .int .i64 d.y, .int .i64 d.z], .int .i64 m, .int .i64 k, .int .i64 (-1)] W (RB W (.tuple #[.int .i64 (d.step m k (-1)), .int .i64 0])))
    {k j : Nat} (hk : k < 3) (hd : d.at k ≠ 1) (hj : j < 2) : ∃ b x, b = (if j = 0 then 1 else -1) ∧ (∀ W, Calls Tryd.prog 55 #[.agg #[.int .i64 d.x, .int .i64 d.y, .int .i64 d.z], .int .i64 m, .int .i64 k, .int .i64 b] W (RB W (.tuple #[.int .i64 x, .int .i64 0]))) ∧
      (sidesOf d m k).drop j ++ R = x :: ((sidesOf d m k).drop (j + 1) ++ R) := by
  have hs : sidesOf d m k = [d.step m k 1, d.step m k (-1)] := if_neg hd
  rw [hs]
  match j, hj with
  | 0, _ => exact ⟨1, _, rfl, HF k hk, rfl⟩
  | 1, _ => exact ⟨-1, _, rfl, HB k hk hd, rfl⟩
set_option maxRecDepth 100000 in set_option maxHeartbeats 4000000 in
theorem sides1_in (n : Nat) (hn : 1 ≤ n) (l Bd Bm B n₀ : Nat) (d : V3) (m : Int) (hm : d.may) (h0 : 0 ≤ m) (h1 : m < d.n) (hBd : Bd ≠ B) (hBm : Bm ≠ B) (J Jx : List Int → World → Prop)
    (hY : ∀ pre x W, J pre W → pre.length < 6 → YieldAt Fence.wide (n - 1) Tryd.prog l (encS x) W fun e W' =>
      (e = .returned (.bool true) ∧ J (pre ++ [x]) W' ∧ KpD n₀ B W W') ∨ (e = .returned (.bool false) ∧ Jx (pre ++ [x]) W'))
    (W : World) (hd : Blk W Bd 23 #[.int .i64 d.x, .int .i64 d.y, .int .i64 d.z]) (hbm : Blk W Bm 3 #[.int .i64 m]) (hJ : AbidesFrom W.heap.size J) (hj0 : J [] W) :
    CallsIn Fence.wide n Tryd.prog 118 #[.func (.yield l) #[] #[], .pointer (some ⟨Bd, 0, none⟩), .pointer (some ⟨Bm, 0, none⟩)] W fun e W' => (∃ v, e = .returned v) ∧
      ((∃ ys, ys = sidesV d m ∧ J ys W') ∨ (∃ pre, pre <+: sidesV d m ∧ Jx pre W')) := by
  have HJ := Lib.hid (fun s X Y (h : J s X) (hb : Below X.heap.size X Y) => hJ s X Y none h (grown_of_below hb) (fun r e => by cases e))
  have HY := Lib.hid hY
  have HF := Lib.hid (fun (k : Nat) (hk : k < 3) W => pos_Step d m k 1 W hm h0 h1 hk (by omega) (by omega))
  have HB := Lib.hid (fun (k : Nat) (hk : k < 3) (hne : d.at k ≠ 1) W => pos_Back d m k W hm h0 h1 hk hne)
  have d0 := hd.cell 0 _ rfl
  have d1 := hd.cell 1 _ rfl
  have d2 := hd.cell 2 _ rfl
  have HD := Lib.hid hd
  have HM := Lib.hid hbm
  clear hJ hY hm h0 h1 hd hbm
  refine callsIn_of_wp Tryd.func118 rfl trivial ?_ rfl
  simp only [Tryd.ntmps118, List.size_toArray, List.length_cons, List.length_nil, Nat.reduceAdd, Nat.reduceSub, Array.replicate_succ, Array.replicate_zero, List.push_toArray, List.append_toArray, List.nil_append, List.cons_append]
  gi_wp2
  clear d0 d1 d2
  gi_loopw [11] (fun i wr => ∃ (k : Nat) (pre rest : List Int), k ≤ 3 ∧ i = .int .i64 k ∧ sidesV d m = pre ++ rest ∧ rest = d.remS m k ∧ J pre wr ∧ Blk wr Bd 23 #[.int .i64 d.x, .int .i64 d.y, .int .i64 d.z] ∧ Blk wr Bm 3 #[.int .i64 m]) (fun i _ => 3 - (intOf i).toNat)
  case atStart => exact ⟨0, [], _, by omega, rfl, rfl, rfl, hj0, HD.out, HM.out⟩
  case round =>
    clear HD HM hj0
    obtain ⟨k, pre, rest, hk, rfl, hx, hr, hJs, hbd, hbm⟩ := hrel
    by_cases hlt : k < 3
    · obtain ⟨R, hR0⟩ : ∃ R, R = d.remS m (k + 1) := ⟨_, rfl⟩
      rw [d.remS_succ m hlt, ← hR0] at hr
      have HJs := Lib.hid hJs
      have HX := Lib.hid hx
      have HD := Lib.hid hbd
      have HM := Lib.hid hbm
      have HR0 := Lib.hid hR0
      have HR := Lib.hid hr
      clear hJs hx hbd hbm hR0 hr
      have hidx := dims_idx d k hlt
      have hd3 : decide ((k : Int) < 3) = true := decide_eq_true (by omega)
      gi_wp2
      clear hidx
      gi_loopw [16] (fun i wr => ∃ (j : Nat) (pre rest : List Int), j ≤ 2 ∧ i = .int .i64 j ∧ sidesV d m = pre ++ rest ∧ rest = (sidesOf d m k).drop j ++ R ∧ J pre wr ∧ Blk wr Bd 23 #[.int .i64 d.x, .int .i64 d.y, .int .i64 d.z] ∧ Blk wr Bm 3 #[.int .i64 m]) (fun i _ => 2 - (intOf i).toNat)
      case atStart => exact ⟨0, pre, rest, Nat.zero_le _, rfl, HX.out, HR.out, HJs.out, HD.out, HM.out⟩
      case round =>
        clear HJs HX HD HM HR
        obtain ⟨j, pre, rest, hj, rfl, hx, hr, hJs, hbd, hbm⟩ := hrel
        have HX := Lib.hid hx
        have HD := Lib.hid hbd
        have HM := Lib.hid hbm
        have HJs := Lib.hid hJs
        by_cases hlj : j < 2
        · by_cases hd1 : d.at k = 1
          · have hr' : rest = (sidesOf d m k).drop (j + 1) ++ R := by rw [hr]; unfold sidesOf; rw [if_pos hd1]; simp
            have HR := Lib.hid hr'
            clear hr hr' hx hbd hbm hJs
            have hidx := by_idx hlj (if j = 0 then 1 else -1) rfl
            gi_wp2
            go_roundw
            case rel => exact ⟨j + 1, pre, rest, by omega, by go_num, HX.out, HR.out, HJs.out, HD.out, HM.out⟩
            case measure => (simp [intOf] <;> omega)
          · obtain ⟨b, x, hbx, hS, hdr⟩ := side_at HF.out HB.out hlt hd1 hlj
            have hidx := by_idx hlj b hbx
            rw [hdr] at hr
            obtain ⟨hp6, hx'⟩ := sides_split hx hr
            have HX' := Lib.hid hx'
            have HS := Lib.hid hS
            have HH := Lib.hid hbx
            clear hr hx hx' hS hbx hdr HX HF HB
            have d0 := hbd.cell 0 _ rfl
            have d1 := hbd.cell 1 _ rfl
            have d2 := hbd.cell 2 _ rfl
            have m0 := hbm.cell 0 _ rfl
            clear hbd hbm hJs
            gi_wp2
            refine ⟨trivial, ?_⟩
            refine (callsIn_wide.2 (HS.out _)).mono ?_
            rintro e w1 ⟨rfl, hb1⟩
            have HJ1 := HJ.out _ _ _ HJs.out hb1
            obtain ⟨fn, tmps, assign, body, hyy, hRd⟩ := HY.out pre x w1 HJ1 hp6
            dsimp only [encS] at hyy
            have HD1 := Lib.hid (HD.out.below hb1)
            have HM1 := Lib.hid (HM.out.below hb1)
            clear d0 d1 d2 m0 hb1 HJ1 HD HM HJs hidx
            gi_wp2
            refine hRd.mono ?_
            rintro e W3 (⟨rfl, hJ3, hk3⟩ | ⟨rfl, hJx3⟩)
            · have HJ3 := Lib.hid hJ3
              have HD3 := Lib.hid (hk3.blk HD1.out hBd)
              have HM3 := Lib.hid (hk3.blk HM1.out hBm)
              clear hJ3 hk3 hRd hyy
              gi_wp2
              go_roundw
              case rel => exact ⟨j + 1, pre ++ [x], _, by omega, by go_num, HX'.out, rfl, HJ3.out, HD3.out, HM3.out⟩
              case measure => (simp [intOf] <;> omega)
            · gi_wp2
              refine bodyPost_ret (results_none rfl _ _ _) rfl ?_
              exact ⟨⟨_, rfl⟩, .inr ⟨pre ++ [x], ⟨_, HX'.out.symm⟩, hJx3⟩⟩
        · obtain rfl : j = 2 := by omega
          have hr' : rest = d.remS m (k + 1) := by
            rw [hr, HR0.out]
            unfold sidesOf
            split <;> rfl
          have HR' := Lib.hid hr'
          clear hr hr' hx hbd hbm hJs
          gi_wp2
          go_roundw
          case rel => exact ⟨k + 1, pre, rest, by omega, by go_num, HX.out, HR'.out, HJs.out, HD.out, HM.out⟩
          case measure => (simp [intOf] <;> omega)
    · obtain rfl : k = 3 := by omega
      have hx2 : pre = sidesV d m := by rw [hx, hr]; exact (List.append_nil _).symm
      have HJs := Lib.hid hJs
      clear hr hx hbd hbm hJs
      gi_wp2
      go_end0
      exact ⟨⟨_, rfl⟩, .inl ⟨pre, hx2, HJs.out⟩⟩
theorem sides_in (n : Nat) (d : V3) (m : Int) (w : World) :
    CallsIn Fence.wide n Tryd.prog 83 #[.agg #[.int .i64 d.x, .int .i64 d.y, .int .i64 d.z], .int .i64 m] w fun e w' => e = .returned (.func (.func 118) #[] #[.pointer (some ⟨w.heap.size, 0, none⟩), .pointer (some ⟨w.heap.size + 1, 0, none⟩)]) ∧
      w' = (w.alloc (.cells #[.int .i64 d.x, .int .i64 d.y, .int .i64 d.z] 23)).alloc (.cells #[.int .i64 m] 3) := by
  refine callsIn_of_wp Tryd.func83 rfl trivial ?_ rfl
  simp only [Tryd.ntmps83, List.size_toArray, List.length_cons, List.length_nil, Nat.reduceAdd, Nat.reduceSub, Array.replicate_succ, Array.replicate_zero, List.push_toArray, List.append_toArray, List.nil_append, List.cons_append]
  gi_wp2
  go_ret
  exact ⟨rfl, rfl⟩
theorem sides_stops (n : Nat) (hn : 1 ≤ n) (Bd Bm B n₀ : Nat) (d : V3) (m : Int) (hm : d.may) (h0 : 0 ≤ m) (h1 : m < d.n) (hBd : Bd ≠ B) (hBm : Bm ≠ B) (w : World) (hd : Blk w Bd 23 #[.int .i64 d.x, .int .i64 d.y, .int .i64 d.z]) (hbm : Blk w Bm 3 #[.int .i64 m]) :
    SeqStopsK Fence.wide n Tryd.prog 118 #[.pointer (some ⟨Bd, 0, none⟩), .pointer (some ⟨Bm, 0, none⟩)] encS (KpD n₀ B) (fun ys => ys = sidesV d m) (fun pre => pre <+: sidesV d m) 6 w := fun l J Jx W hW hJ _ hY hj0 =>
  sides1_in n hn l Bd Bm B n₀ d m hm h0 h1 hBd hBm J Jx hY W (hd.below hW) (hbm.below hW) hJ hj0
end Go.Proofs.YthabpiphfaedaaaDoor
