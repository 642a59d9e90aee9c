/- REF 13: every canonical box that is clear of a set; Free: the document's. -/
import Derived.Test.YtofoenlhbmammaaQ0RefGAG13
set_option linter.unusedVariables false
set_option linter.unusedSimpArgs false
namespace Go.Proofs.Ytofoenlhbmammaa

section
open Go.RowKit Go.Shelf

/-- What is laid, when so many sizes at a midplane have been gone through. -/
def evL (d : V3) (ms : List Nat) (m i : Nat) : List Bx := (boxesTo d m ++ boxesOf d m i).filter (clearS d ms)
theorem evL_succ (d : V3) (ms : List Nat) (m i : Nat) : evL d ms m (i + 1) = evL d ms m i ++ (if canB d (szB d m i) && clearS d ms (szB d m i) then [szB d m i] else []) := by
  unfold evL
  rw [boxesOf_succ, ← List.append_assoc, List.filter_append]
  congr 1
  cases h1 : canB d (szB d m i) <;> cases h2 : clearS d ms (szB d m i) <;> simp [h1, h2]
theorem evL_next (d : V3) (ms : List Nat) (m : Nat) : evL d ms m d.n.toNat = evL d ms (m + 1) 0 := by
  unfold evL
  rw [boxesTo_succ, show boxesOf d (m + 1) 0 = [] from rfl, List.append_nil]
theorem evL_all (d : V3) (ms : List Nat) : evL d ms d.n.toNat 0 = freeL d ms := by
  unfold evL freeL allBx
  rw [show boxesOf d d.n.toNat 0 = [] from rfl, List.append_nil]
theorem evL_len (d : V3) (ms : List Nat) (m i : Nat) (hN : d.n ≤ 64) (hm : m ≤ 64) (hi : i ≤ 64) : (evL d ms m i).length ≤ 5000 := by
  have h1 : ∀ m k, (boxesOf d m k).length ≤ k := fun m k => by
    unfold boxesOf
    exact Nat.le_trans (List.length_filter_le _ _) (by simp)
  have h2 : ∀ k, (boxesTo d k).length ≤ k * 64 := fun k => by
    induction k with
    | zero => exact Nat.zero_le _
    | succ k ih =>
      rw [boxesTo_succ, List.length_append]
      have := h1 k d.n.toNat
      omega
  have h3 := h1 m i
  have h4 := h2 m
  refine Nat.le_trans (List.length_filter_le _ _) ?_
  rw [List.length_append]
  omega
theorem szB_at {d : V3} (hd : d.may) (m X Y Z : Nat) (hX : X < d.x.toNat) (hY : Y < d.y.toNat) (hZ : Z < d.z.toNat) :
    szB d m ((X * d.y.toNat + Y) * d.z.toNat + Z) = ⟨d.pos m, ⟨(X : Int) + 1, (Y : Int) + 1, (Z : Int) + 1⟩⟩ ∧ (X * d.y.toNat + Y) * d.z.toNat + Z < d.n.toNat := by
  have hd' := hd
  obtain ⟨⟨x1, x2⟩, ⟨y1, y2⟩, ⟨z1, z2⟩⟩ := hd'
  obtain ⟨i0, i1, i2, i3, i4⟩ := szI_lt (s := ⟨(X : Int) + 1, (Y : Int) + 1, (Z : Int) + 1⟩) hd (by show 1 ≤ (X : Int) + 1 ∧ (X : Int) + 1 ≤ d.x; omega) (by show 1 ≤ (Y : Int) + 1 ∧ (Y : Int) + 1 ≤ d.y; omega) (by show 1 ≤ (Z : Int) + 1 ∧ (Z : Int) + 1 ≤ d.z; omega)
  have e : szI d ⟨(X : Int) + 1, (Y : Int) + 1, (Z : Int) + 1⟩ = (((X * d.y.toNat + Y) * d.z.toNat + Z : Nat) : Int) := by
    unfold szI
    rw [Int.natCast_add, Int.natCast_mul, Int.natCast_add, Int.natCast_mul, Int.toNat_of_nonneg (by omega : 0 ≤ d.y), Int.toNat_of_nonneg (by omega : 0 ≤ d.z)]
    show (((X : Int) + 1 - 1) * d.y + ((Y : Int) + 1 - 1)) * d.z + ((Z : Int) + 1 - 1) = _
    rw [show (X : Int) + 1 - 1 = X by omega, show (Y : Int) + 1 - 1 = Y by omega, show (Z : Int) + 1 - 1 = Z by omega]
  rw [e] at i0 i1 i2 i3 i4
  refine ⟨?_, by omega⟩
  unfold szB
  rw [i2, i3, i4]
  show Bx.mk (d.pos m) ⟨1 + ((X : Int) + 1 - 1), 1 + ((Y : Int) + 1 - 1), 1 + ((Z : Int) + 1 - 1)⟩ = _
  rw [show 1 + ((X : Int) + 1 - 1) = (X : Int) + 1 by omega, show 1 + ((Y : Int) + 1 - 1) = (Y : Int) + 1 by omega, show 1 + ((Z : Int) + 1 - 1) = (Z : Int) + 1 by omega]
set_option maxRecDepth 100000 in set_option maxHeartbeats 4000000 in
theorem ref13_Every (d : V3) (bs : Option Addr) (cs : Nat) (ms : List Nat) (w : World) (hd : d.may) (hN : d.n ≤ 64) (hs : SetIn w bs ms) : Calls Try.prog 45 #[.agg #[.int .i64 d.x, .int .i64 d.y, .int .i64 d.z], .slice bs ms.length cs] w (RX w (freeL d ms)) := by
  have RN := Lib.hid (fun W => ref01_N d W hd)
  have RW := Lib.hid (fun (m : Nat) W (h : m ≤ 64) => ref01_Where d m W hd (Int.natCast_nonneg m) (by omega))
  have RT := Lib.hid (fun x W => ref02_Told d x W)
  have RC := Lib.hid (fun x W (hx : x.may d) (h : Below w.heap.size w W) => ref13_Clear d x bs cs ms W hd hx (hs.keep h))
  have HALL := Lib.hid (evL_all d ms)
  have HNX := Lib.hid (fun m => evL_next d ms m)
  have HSU := Lib.hid (fun m i => evL_succ d ms m i)
  have HLN := Lib.hid (fun m i h1 h2 => evL_len d ms m i hN h1 h2)
  have HAT := Lib.hid (fun m X Y Z h1 h2 h3 => szB_at hd m X Y Z h1 h2 h3)
  have HMY := Lib.hid (fun (m i : Nat) (h1 : (m : Int) < d.n) (h2 : (i : Int) < d.n) => szB_may hd h1 h2)
  obtain ⟨i0, hi, iz0, iz1, iz2⟩ := info_parts infoBox
  have hgd : Try.prog.eqGuardType Try.prog.depth 27 = false := by kernel_rfl
  have hnl := V3.n_le hd
  have hNE : d.n.toNat = d.x.toNat * d.y.toNat * d.z.toNat := by
    obtain ⟨⟨x1, x2⟩, ⟨y1, y2⟩, ⟨z1, z2⟩⟩ := hd
    have : (d.n.toNat : Int) = ((d.x.toNat * d.y.toNat * d.z.toNat : Nat) : Int) := by
      rw [Int.natCast_mul, Int.natCast_mul, Int.toNat_of_nonneg (by omega), Int.toNat_of_nonneg (by omega : 0 ≤ d.x), Int.toNat_of_nonneg (by omega : 0 ≤ d.y), Int.toNat_of_nonneg (by omega : 0 ≤ d.z)]
      rfl
    omega
  obtain ⟨⟨x1, x2⟩, ⟨y1, y2⟩, ⟨z1, z2⟩⟩ := hd
  have HNE := Lib.hid hNE
  clear hs hNE
  go_enter Try.func45, Try.ntmps45
  go_wp2_with fail
  go_loopw [5, 6] (fun v i wr => ∃ m : Nat, m ≤ d.n.toNat ∧ i = .int .i64 m ∧ wr.ownsRow (w.heap.size + 1) 27 6 v (evL d ms m 0).length (bxc (evL d ms m 0)) ∧ Blk wr w.heap.size 23 #[.int .i64 d.x, .int .i64 d.y, .int .i64 d.z] ∧ Below w.heap.size w wr) (fun _ i _ => d.n.toNat - (intOf i).toNat)
  case atStart => exact ⟨0, Nat.zero_le _, rfl, ⟨rfl, .inl ⟨rfl, rfl⟩⟩, Blk.new w _ _, by (repeat (first | (with_reducible exact Below.refl _ _) | (with_reducible assumption) | (with_reducible refine below_alloc ?_ _) | (with_reducible refine below_drewN ?_ _) | (with_reducible refine Below.drew ?_) | (with_reducible refine below_then ?_ (by with_reducible assumption)) | (with_reducible refine Below.setCell ?_ (by go_size) _)))⟩
  case round =>
    obtain ⟨m, hm, rfl, ho, hbd, hb⟩ := hrel
    have HO := Lib.hid ho
    have HB := Lib.hid hb
    have HBD := Lib.hid hbd
    (have d0 := (hbd).cell 0 _ rfl; have d1 := (hbd).cell 1 _ rfl; have d2 := (hbd).cell 2 _ rfl; have dl := (hbd).lt)
    clear ho hb hbd
    go_wp2_with fail
    refine (RN.out _).mono ?_
    rintro e w1 ⟨rfl, hb1⟩
    have HO := Lib.hid (own_keep HO.out hb1)
    have HB := Lib.hid (below_then HB.out hb1)
    have HBD := Lib.hid (HBD.out.below hb1)
    clear hb1
    clear d0 d1 d2 dl
    by_cases hlt : m < d.n.toNat
    · have hq : decide ((m : Int) < d.n) = true := decide_eq_true (by omega)
      go_wp2_with fail
      go_loopw [5, 7] (fun v i wr => ∃ X : Nat, X ≤ d.x.toNat ∧ i = .int .i64 ((X : Int) + 1) ∧ wr.ownsRow (w.heap.size + 1) 27 6 v (evL d ms m (X * d.y.toNat * d.z.toNat)).length (bxc (evL d ms m (X * d.y.toNat * d.z.toNat))) ∧ Blk wr w.heap.size 23 #[.int .i64 d.x, .int .i64 d.y, .int .i64 d.z] ∧ Below w.heap.size w wr) (fun _ i _ => d.x.toNat + 1 - (intOf i).toNat)
      case atStart => exact ⟨0, Nat.zero_le _, by go_num, by rw [Nat.zero_mul, Nat.zero_mul]; exact HO.out, HBD.out, HB.out⟩
      case round =>
        clear HO HB HBD
        obtain ⟨X, hX, rfl, ho, hbd, hb⟩ := hrel
        have HO := Lib.hid ho
        have HB := Lib.hid hb
        have HBD := Lib.hid hbd
        (have d0 := (hbd).cell 0 _ rfl; have d1 := (hbd).cell 1 _ rfl; have d2 := (hbd).cell 2 _ rfl; have dl := (hbd).lt)
        clear ho hb hbd
        by_cases hlx : X < d.x.toNat
        · have hqx : decide ((X : Int) + 1 ≤ d.x) = true := decide_eq_true (by omega)
          go_wp2_with fail
          clear d0 d1 d2 dl
          go_loopw [5, 8] (fun v i wr => ∃ Y : Nat, Y ≤ d.y.toNat ∧ i = .int .i64 ((Y : Int) + 1) ∧ wr.ownsRow (w.heap.size + 1) 27 6 v (evL d ms m ((X * d.y.toNat + Y) * d.z.toNat)).length (bxc (evL d ms m ((X * d.y.toNat + Y) * d.z.toNat))) ∧ Blk wr w.heap.size 23 #[.int .i64 d.x, .int .i64 d.y, .int .i64 d.z] ∧ Below w.heap.size w wr) (fun _ i _ => d.y.toNat + 1 - (intOf i).toNat)
          case atStart => exact ⟨0, Nat.zero_le _, by go_num, by rw [Nat.add_zero]; exact HO.out, HBD.out, HB.out⟩
          case round =>
            clear HO HB HBD
            obtain ⟨Y, hY, rfl, ho, hbd, hb⟩ := hrel
            have HO := Lib.hid ho
            have HB := Lib.hid hb
            have HBD := Lib.hid hbd
            (have d0 := (hbd).cell 0 _ rfl; have d1 := (hbd).cell 1 _ rfl; have d2 := (hbd).cell 2 _ rfl; have dl := (hbd).lt)
            clear ho hb hbd
            by_cases hly : Y < d.y.toNat
            · have hqy : decide ((Y : Int) + 1 ≤ d.y) = true := decide_eq_true (by omega)
              go_wp2_with fail
              clear d0 d1 d2 dl
              go_loopw [5, 9] (fun v i wr => ∃ Z : Nat, Z ≤ d.z.toNat ∧ i = .int .i64 ((Z : Int) + 1) ∧ wr.ownsRow (w.heap.size + 1) 27 6 v (evL d ms m ((X * d.y.toNat + Y) * d.z.toNat + Z)).length (bxc (evL d ms m ((X * d.y.toNat + Y) * d.z.toNat + Z))) ∧ Blk wr w.heap.size 23 #[.int .i64 d.x, .int .i64 d.y, .int .i64 d.z] ∧ Below w.heap.size w wr) (fun _ i _ => d.z.toNat + 1 - (intOf i).toNat)
              case atStart => exact ⟨0, Nat.zero_le _, by go_num, by rw [Nat.add_zero]; exact HO.out, HBD.out, HB.out⟩
              case round =>
                clear HO HB HBD
                obtain ⟨Z, hZ, rfl, ho, hbd, hb⟩ := hrel
                have HO := Lib.hid ho
                have HB := Lib.hid hb
                have HBD := Lib.hid hbd
                (have d0 := (hbd).cell 0 _ rfl; have d1 := (hbd).cell 1 _ rfl; have d2 := (hbd).cell 2 _ rfl; have dl := (hbd).lt)
                clear ho hb hbd
                by_cases hlz : Z < d.z.toNat
                · have hqz : decide ((Z : Int) + 1 ≤ d.z) = true := decide_eq_true (by omega)
                  obtain ⟨hat, hil⟩ := HAT.out m X Y Z hlx hly hlz
                  have hmay := HMY.out m ((X * d.y.toNat + Y) * d.z.toNat + Z) (by omega) (by omega)
                  have hsu := HSU.out m ((X * d.y.toNat + Y) * d.z.toNat + Z)
                  have hln := HLN.out m ((X * d.y.toNat + Y) * d.z.toNat + Z) (by omega) (by omega)
                  rw [hat] at hmay hsu
                  obtain ⟨p, hp⟩ : ∃ p, p = d.pos m := ⟨_, rfl⟩
                  have RWm := Lib.hid (fun W => by have h := RW.out m W (by omega); rw [← hp] at h; exact h)
                  rw [← hp] at hmay hsu
                  have RTx := Lib.hid (fun W => RT.out ⟨p, ⟨(X : Int) + 1, (Y : Int) + 1, (Z : Int) + 1⟩⟩ W)
                  have RCx := Lib.hid (fun W (h : Below w.heap.size w W) => RC.out ⟨p, ⟨(X : Int) + 1, (Y : Int) + 1, (Z : Int) + 1⟩⟩ W hmay h)
                  have heq : ∀ w, (binOp .eql 27 (.agg #[.int .i64 ((⟨p, ⟨(X : Int) + 1, (Y : Int) + 1, (Z : Int) + 1⟩⟩ : Bx).can d).b.x, .int .i64 ((⟨p, ⟨(X : Int) + 1, (Y : Int) + 1, (Z : Int) + 1⟩⟩ : Bx).can d).b.y, .int .i64 ((⟨p, ⟨(X : Int) + 1, (Y : Int) + 1, (Z : Int) + 1⟩⟩ : Bx).can d).b.z, .int .i64 ((⟨p, ⟨(X : Int) + 1, (Y : Int) + 1, (Z : Int) + 1⟩⟩ : Bx).can d).s.x, .int .i64 ((⟨p, ⟨(X : Int) + 1, (Y : Int) + 1, (Z : Int) + 1⟩⟩ : Bx).can d).s.y, .int .i64 ((⟨p, ⟨(X : Int) + 1, (Y : Int) + 1, (Z : Int) + 1⟩⟩ : Bx).can d).s.z]) (.agg #[.int .i64 p.x, .int .i64 p.y, .int .i64 p.z, .int .i64 ((X : Int) + 1), .int .i64 ((Y : Int) + 1), .int .i64 ((Z : Int) + 1)])).run Try.prog w = .ok (.bool (canB d ⟨p, ⟨(X : Int) + 1, (Y : Int) + 1, (Z : Int) + 1⟩⟩)) w := fun w => run_eql_box ((⟨p, ⟨(X : Int) + 1, (Y : Int) + 1, (Z : Int) + 1⟩⟩ : Bx).can d) ⟨p, ⟨(X : Int) + 1, (Y : Int) + 1, (Z : Int) + 1⟩⟩ w
                  generalize (⟨p, ⟨(X : Int) + 1, (Y : Int) + 1, (Z : Int) + 1⟩⟩ : Bx).can d = c at *
                  have hcells : (⟨p, ⟨(X : Int) + 1, (Y : Int) + 1, (Z : Int) + 1⟩⟩ : Bx).cells = [.int .i64 p.x, .int .i64 p.y, .int .i64 p.z, .int .i64 ((X : Int) + 1), .int .i64 ((Y : Int) + 1), .int .i64 ((Z : Int) + 1)] := rfl
                  have HSX := Lib.hid hsu
                  have HLX := Lib.hid hln
                  have HCL := Lib.hid hcells
                  generalize evL d ms m ((X * d.y.toNat + Y) * d.z.toNat + Z) = old at *
                  generalize canB d ⟨p, ⟨(X : Int) + 1, (Y : Int) + 1, (Z : Int) + 1⟩⟩ = cb at *
                  generalize clearS d ms ⟨p, ⟨(X : Int) + 1, (Y : Int) + 1, (Z : Int) + 1⟩⟩ = cs' at *
                  clear hat hil hmay hsu hln hp hcells
                  go_wp2_with fail
                  refine (RWm.out _).mono ?_
                  rintro e w2 ⟨rfl, hb2⟩
                  have HO := Lib.hid (own_keep HO.out hb2)
                  have HB := Lib.hid (below_then HB.out hb2)
                  have HBD := Lib.hid (HBD.out.below hb2)
                  clear hb2 RWm
                  clear d0 d1 d2 dl
                  go_wp2_with fail
                  have hb3 : Below w2.heap.size w2 (w2.alloc (.cells #[.int .i64 p.x, .int .i64 p.y, .int .i64 p.z, .int .i64 ((X : Int) + 1), .int .i64 ((Y : Int) + 1), .int .i64 ((Z : Int) + 1)] 27)) := by (repeat (first | (with_reducible exact Below.refl _ _) | (with_reducible assumption) | (with_reducible refine below_alloc ?_ _) | (with_reducible refine below_drewN ?_ _) | (with_reducible refine Below.drew ?_) | (with_reducible refine below_then ?_ (by with_reducible assumption)) | (with_reducible refine Below.setCell ?_ (by go_size) _)))
                  have hX3 := Blk.new w2 27 #[.int .i64 p.x, .int .i64 p.y, .int .i64 p.z, .int .i64 ((X : Int) + 1), .int .i64 ((Y : Int) + 1), .int .i64 ((Z : Int) + 1)]
                  obtain ⟨W3, hW3⟩ : ∃ W3, W3 = w2.alloc (.cells #[.int .i64 p.x, .int .i64 p.y, .int .i64 p.z, .int .i64 ((X : Int) + 1), .int .i64 ((Y : Int) + 1), .int .i64 ((Z : Int) + 1)] 27) := ⟨_, rfl⟩
                  rw [← hW3] at hb3 hX3 ⊢
                  have HO3 := Lib.hid (own_keep HO.out hb3)
                  have HB3 := Lib.hid (below_then HB.out hb3)
                  have HBD3 := Lib.hid (HBD.out.below hb3)
                  have HX3 := Lib.hid hX3
                  (have d0 := (HBD3.out).cell 0 _ rfl; have d1 := (HBD3.out).cell 1 _ rfl; have d2 := (HBD3.out).cell 2 _ rfl; have dl := (HBD3.out).lt)
                  have g0 := hX3.cell 0 _ rfl
                  have g1 := hX3.cell 1 _ rfl
                  have g2 := hX3.cell 2 _ rfl
                  have g3 := hX3.cell 3 _ rfl
                  have g4 := hX3.cell 4 _ rfl
                  have g5 := hX3.cell 5 _ rfl
                  have gl := hX3.lt
                  have I1 := Lib.hid (fun (y : Aft W3) => Calls.aft_of (x := y) (RTx.out _))
                  have I2 := Lib.hid (fun (y : Aft W3) => Calls.aft_of (x := y) (RCx.out _ (below_then HB3.out y.h)))
                  clear hb3 hX3 hW3 HO HB HBD
                  cases cb with
                  | false =>
                    have HS2 := Lib.hid (show evL d ms m ((X * d.y.toNat + Y) * d.z.toNat + Z + 1) = old by rw [HSX.out]; simp)
                    go_wp2_with fail
                    (refine wp_region_aft (by kernel_rfl) (by kernel_rfl) ?_; (repeat (any_goals (first | go_big_quiet_step ((first | with_reducible exact I1.out _ | with_reducible exact I2.out _)) | quiet_step ((first | with_reducible exact I1.out _ | with_reducible exact I2.out _)) | (refine wpQuiet_step (fun K hK => ?_); go_simp; split <;> (refine hK _ ?_; clear hK K))))); all_goals (refine wpQuiet_nil ?_; intro wq hw'; obtain ⟨x1, hx1⟩ := hw'; have hbq := x1.h; rw [← hx1] at hbq; clear hx1 x1))
                    have HOq := Lib.hid (own_keep HO3.out hbq)
                    have HBq := Lib.hid (below_then HB3.out hbq)
                    have HBDq := Lib.hid (HBD3.out.below hbq)
                    clear hbq d0 d1 d2 dl g0 g1 g2 g3 g4 g5 gl
                    go_wp2_with fail
                    go_roundw
                    case rel => exact ⟨Z + 1, by omega, by go_num, by rw [← Nat.add_assoc, HS2.out]; exact HOq.out, HBDq.out, HBq.out⟩
                    case measure => (simp [intOf] <;> omega)
                  | true =>
                    go_wp2_with fail
                    (refine wp_region_aft (by kernel_rfl) (by kernel_rfl) ?_; (repeat (any_goals (first | go_big_quiet_step ((first | with_reducible exact I1.out _ | with_reducible exact I2.out _)) | quiet_step ((first | with_reducible exact I1.out _ | with_reducible exact I2.out _)) | (refine wpQuiet_step (fun K hK => ?_); go_simp; split <;> (refine hK _ ?_; clear hK K))))); all_goals (refine wpQuiet_nil ?_; intro wq hw'; obtain ⟨x1, hx1⟩ := hw'; have hbq := x1.h; rw [← hx1] at hbq; clear hx1 x1))
                    have HOq := Lib.hid (own_keep HO3.out hbq)
                    have HBq := Lib.hid (below_then HB3.out hbq)
                    have HBDq := Lib.hid (HBD3.out.below hbq)
                    have hXq := HX3.out.below hbq
                    clear hbq d0 d1 d2 dl g0 g1 g2 g3 g4 g5 gl
                    have g0 := hXq.cell 0 _ rfl
                    have g1 := hXq.cell 1 _ rfl
                    have g2 := hXq.cell 2 _ rfl
                    have g3 := hXq.cell 3 _ rfl
                    have g4 := hXq.cell 4 _ rfl
                    have g5 := hXq.cell 5 _ rfl
                    clear hXq
                    cases cs' with
                    | false =>
                      have HS2 := Lib.hid (show evL d ms m ((X * d.y.toNat + Y) * d.z.toNat + Z + 1) = old by rw [HSX.out]; simp)
                      go_wp2_with fail
                      go_roundw
                      case rel => exact ⟨Z + 1, by omega, by go_num, by rw [← Nat.add_assoc, HS2.out]; exact HOq.out, HBDq.out, HBq.out⟩
                      case measure => (simp [intOf] <;> omega)
                    | true =>
                      have HS2 := Lib.hid (show evL d ms m ((X * d.y.toNat + Y) * d.z.toNat + Z + 1) = old ++ [⟨p, ⟨(X : Int) + 1, (Y : Int) + 1, (Z : Int) + 1⟩⟩] by rw [HSX.out]; simp)
                      have hol := HLX.out
                      have hzq := HBq.out.size
                      have hnq : w.heap.size + 1 ≤ wq.heap.size := by have := HBDq.out.lt; omega
                      go_wp2_with (at_builtin; refine wpList_append_own _ rfl _ _ 30 rfl (w.heap.size + 1) 27 i0 (.agg #[.int .i64 0, .int .i64 0, .int .i64 0, .int .i64 0, .int .i64 0, .int .i64 0]) 6 48 Try.underlying30 hi iz0 iz1 iz2 rfl (by decide) _ _ _ rfl (HOq.out.alloc _) ⟨_, 0, none⟩ 1 1 [.int .i64 p.x, .int .i64 p.y, .int .i64 p.z, .int .i64 ((X : Int) + 1), .int .i64 ((Y : Int) + 1), .int .i64 ((Z : Int) + 1)] rfl rfl (cell_new6 _ _ _ _ _ _ _ _ _ (by simp)) (by simp [Value.oneCell']) ?_ ?_ ?_ ?_)
                      all_goals try (first | omega | (unfold maxLen; omega) | (simp; omega) | (simp; unfold maxLen; omega))
                      intro v' w4 o4 hg4 _
                      have hoA := HOq.out.alloc (.cells #[.int .i64 p.x, .int .i64 p.y, .int .i64 p.z, .int .i64 ((X : Int) + 1), .int .i64 ((Y : Int) + 1), .int .i64 ((Z : Int) + 1)] 27)
                      have n4 := own_below hoA hg4 (by simp; omega)
                      have HB4 := Lib.hid ((below_alloc HBq.out (.cells #[.int .i64 p.x, .int .i64 p.y, .int .i64 p.z, .int .i64 ((X : Int) + 1), .int .i64 ((Y : Int) + 1), .int .i64 ((Z : Int) + 1)] 27)).trans (n4.mono (Nat.le_succ _)))
                      have HBD4 := Lib.hid ((HBDq.out.alloc _).kept hg4 (fun e => by have := (hoA.lt _ e.symm).1; omega))
                      have HO4 := Lib.hid (own_bx (x := ⟨p, ⟨(X : Int) + 1, (Y : Int) + 1, (Z : Int) + 1⟩⟩) (by rw [HCL.out]; exact o4) rfl)
                      clear n4 o4 hg4 hoA g0 g1 g2 g3 g4 g5
                      go_wp2_with fail
                      go_roundw
                      case rel => exact ⟨Z + 1, by omega, by go_num, by rw [← Nat.add_assoc, HS2.out]; exact HO4.out, HBD4.out, HB4.out⟩
                      case measure => (simp [intOf] <;> omega)
                · obtain rfl : Z = d.z.toNat := by omega
                  have hqz : decide (((d.z.toNat : Nat) : Int) + 1 ≤ d.z) = false := decide_eq_false (by omega)
                  have HE := Lib.hid (show (X * d.y.toNat + Y) * d.z.toNat + d.z.toNat = (X * d.y.toNat + (Y + 1)) * d.z.toNat by rw [← Nat.add_assoc, Nat.succ_mul])
                  go_wp2_with fail
                  go_roundw
                  case rel => exact ⟨Y + 1, by omega, by go_num, by rw [← HE.out]; exact HO.out, HBD.out, HB.out⟩
                  case measure => (simp [intOf] <;> omega)
            · obtain rfl : Y = d.y.toNat := by omega
              have hqy : decide (((d.y.toNat : Nat) : Int) + 1 ≤ d.y) = false := decide_eq_false (by omega)
              have HE := Lib.hid (show (X * d.y.toNat + d.y.toNat) * d.z.toNat = (X + 1) * d.y.toNat * d.z.toNat by rw [Nat.succ_mul])
              go_wp2_with fail
              go_roundw
              case rel => exact ⟨X + 1, by omega, by go_num, by rw [← HE.out]; exact HO.out, HBD.out, HB.out⟩
              case measure => (simp [intOf] <;> omega)
        · obtain rfl : X = d.x.toNat := by omega
          have hqx : decide (((d.x.toNat : Nat) : Int) + 1 ≤ d.x) = false := decide_eq_false (by omega)
          have HE := Lib.hid (show evL d ms m (d.x.toNat * d.y.toNat * d.z.toNat) = evL d ms (m + 1) 0 by rw [← HNE.out, HNX.out])
          go_wp2_with fail
          go_roundw
          case rel => exact ⟨m + 1, by omega, by go_num, by rw [← HE.out]; exact HO.out, HBD.out, HB.out⟩
          case measure => (simp [intOf] <;> omega)
    · obtain rfl : m = d.n.toNat := by omega
      have hq : decide (((d.n.toNat : Nat) : Int) < d.n) = false := decide_eq_false (by omega)
      go_wp2_with fail
      go_returns
      exact ⟨_, rfl, by rw [← HALL.out]; exact own_mono HO.out (Nat.le_succ _), HB.out⟩
end
end Go.Proofs.Ytofoenlhbmammaa
