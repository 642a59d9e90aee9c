/- PLACE: the closure along the second and third axis. -/
import Derived.Test.YthabpiphfaedaaaDoorPlFirst
namespace Go.Proofs.YthabpiphfaedaaaDoor

section
open Go.RowKit Go.Shelf


set_option maxRecDepth 100000 in set_option maxHeartbeats 4000000 in
theorem place_along1 (d : V3) (p : Pl) (Bp Bd Bl : Nat) (v : Value) (xs : List Int) (w : World) (hd : d.may) (hb : p.b.may d) (bp : Blk w Bp 28 #[.int .i64 p.b.b.x, .int .i64 p.b.b.y, .int .i64 p.b.b.z, .int .i64 p.b.s.x, .int .i64 p.b.s.y, .int .i64 p.b.s.z, .bool p.t0, .bool p.t1, .bool p.t2]) (bd : Blk w Bd 23 #[.int .i64 d.x, .int .i64 d.y, .int .i64 d.z]) (hl : AtL w Bl v xs) (h1 : Bp < Bl) (h2 : Bd < Bl) (hx : xs.length ≤ 200000) :
    Calls Tryd.prog 74 #[.int .i64 1, .pointer (some ⟨Bp, 0, none⟩), .pointer (some ⟨Bd, 0, none⟩), .pointer (some ⟨Bl, 0, none⟩)] w (fun e w' => (∃ u, e = .returned u) ∧ Below Bl w w' ∧ (∀ b, b < w.heap.size → b ≠ Bl → v.ownBlock ≠ some b → w'.heap[b]? = w.heap[b]?) ∧ ∃ v', AtL w' Bl v' (xs ++ cabs d p 1) ∧ (∀ g, v'.ownBlock = some g → v.ownBlock = some g ∨ w.heap.size ≤ g)) := by
  obtain ⟨i0, hi, iz0, iz1, iz2⟩ := info_parts infoInt
  have HN := Lib.hid (fun W => show Calls Tryd.prog 15 #[.agg #[.int .i64 d.x, .int .i64 d.y, .int .i64 d.z], .agg #[.int .i64 p.b.b.x, .int .i64 p.b.b.y, .int .i64 p.b.b.z, .int .i64 p.b.s.x, .int .i64 1, .int .i64 p.b.s.z]] W (RIE W ((p.b.thin 1).all d) 0) from box_Nodes_ok d (p.b.thin 1) W hd (Bx.thin_may hb 1 (by decide)))
  have HLL := Lib.hid (Bx.all_len' d (p.b.thin 1) hd)
  have HR := Lib.hid (fun m W (hm : m ∈ (p.b.thin 1).all d) => along_run (d := d) (p := p) hd hb (k := 1) (by decide) W (Bx.mem_all' hm))
  have HQ := Lib.hid (show cabs d p 1 = cabsOf d p 1 ((p.b.thin 1).all d) from rfl)
  generalize (p.b.thin 1).all d = L at *
  have HP := Lib.hid bp
  have HD := Lib.hid bd
  have HA := Lib.hid hl
  have c0 := bp.cell 0 _ rfl
  have c1 := bp.cell 1 _ rfl
  have c2 := bp.cell 2 _ rfl
  have c3 := bp.cell 3 _ rfl
  have c4 := bp.cell 4 _ rfl
  have c5 := bp.cell 5 _ rfl
  have e0 := bd.cell 0 _ rfl
  have e1 := bd.cell 1 _ rfl
  have e2 := bd.cell 2 _ rfl
  have l1 := bp.lt
  have l2 := bd.lt
  have l3 := hl.blk.lt
  clear bp bd hl hd hb
  go_enter Tryd.func74, Tryd.ntmps74
  go_wp2_with fail
  refine (HN.out _).mono ?_
  rintro e w2 ⟨vL, rfl, oL, hb2⟩
  obtain ⟨bL, cL, rfl, _, _⟩ := own_rd oL
  have HB2 := Lib.hid (below_then (show Below w.heap.size w (w.alloc (.cells #[.int .i64 p.b.b.x, .int .i64 p.b.b.y, .int .i64 p.b.b.z, .int .i64 p.b.s.x, .int .i64 1, .int .i64 p.b.s.z] 25)) by (repeat (first | (with_reducible exact Below.refl _ _) | (with_reducible assumption) | (with_reducible refine below_alloc ?_ _) | (with_reducible refine below_drewN ?_ _) | (with_reducible refine Below.drew ?_) | (with_reducible refine below_then ?_ (by with_reducible assumption)) | (with_reducible refine Below.setCell ?_ (by go_size) _)))) hb2)
  rw [World.size_alloc] at oL
  have A2 := Lib.hid (hl_keep HA.out HB2.out)
  have hsep := own_sep HA.out.row oL (by omega)
  have OL := Lib.hid (show w2.ownsRow (w.heap.size + 1) 3 1 (.slice bL L.length cL) L.length (ic' L) from oL)
  have HSEP := Lib.hid hsep
  clear oL hb2 hsep c0 c1 c2 c3 c4 c5 e0 e1 e2
  go_wp2_with fail
  go_loopw [25] (fun x wr => ∃ (i : Nat) (v' : Value), i ≤ L.length ∧ x = .int .i64 i ∧ Below Bl w wr ∧ AtL wr Bl v' (xs ++ cabsOf d p 1 (L.take i)) ∧ wr.ownsRow (w.heap.size + 1) 3 1 (.slice bL L.length cL) L.length (ic' L) ∧ (∀ g, Value.ownBlock (.slice bL L.length cL) = some g → v'.ownBlock ≠ some g) ∧ (∀ b, b < w.heap.size → b ≠ Bl → v.ownBlock ≠ some b → wr.heap[b]? = w.heap[b]?) ∧ (∀ g, v'.ownBlock = some g → v.ownBlock = some g ∨ w.heap.size ≤ g)) (fun x _ => L.length - (intOf x).toNat)
  case atStart => exact ⟨0, v, Nat.zero_le _, rfl, HB2.out.mono (by omega), by rw [List.take_zero, show cabsOf d p 1 [] = [] from rfl, List.append_nil]; exact A2.out, OL.out, HSEP.out, fun b hb _ _ => HB2.out.block b hb, fun g hg => .inl hg⟩
  case round =>
    obtain ⟨i, v', hi', rfl, hbel, hat, hrow, hsp, hk1, hk2⟩ := hrel
    have HAT := Lib.hid hat
    have HROW := Lib.hid hrow
    have HSP := Lib.hid hsp
    have HK1 := Lib.hid hk1
    have HK2 := Lib.hid hk2
    clear hk1 hk2
    have HBE := Lib.hid hbel
    by_cases hlt : i < L.length
    · obtain ⟨bx, cx, e, rd, _⟩ := own_rd hrow
      cases e
      obtain ⟨g0, off, e, hc⟩ := rd i _ (getElem?_map_int hlt)
      subst e
      obtain ⟨m, hm⟩ : ∃ m, m = L[i] := ⟨_, rfl⟩
      obtain ⟨R, hRR⟩ : ∃ R, R = d.runV ((1 : Nat) : Int) m (p.b.s.at 1) (p.tor 1) := ⟨_, rfl⟩
      have HRM := Lib.hid (fun W => show Calls Tryd.prog 75 #[.agg #[.int .i64 d.x, .int .i64 d.y, .int .i64 d.z], .int .i64 1, .int .i64 m, .int .i64 p.b.s.y, .bool p.t1] W (RLE W R 0) from by have := HR.out m W (by rw [hm]; exact List.getElem_mem hlt); rw [← hRR] at this; exact this)
      rw [← hm] at hc
      have htk := Lib.hid (show cabsOf d p 1 (L.take (i + 1)) = cabsOf d p 1 (L.take i) ++ R by rw [List.take_succ_eq_append_getElem hlt, cabsOf_snoc, ← hm, hRR])
      have hrl := d.runV_len ((1 : Nat) : Int) m (p.b.s.at 1) (p.tor 1)
      rw [← hRR] at hrl
      have hcl := cabsOf_len d p 1 (L.take i)
      rw [List.length_take] at hcl
      have hll := HLL.out
      have bp := HP.out.keep hbel h1
      have bd := HD.out.keep hbel h2
      have e0 := bd.cell 0 _ rfl
      have e1 := bd.cell 1 _ rfl
      have e2 := bd.cell 2 _ rfl
      have p1 := bp.cell 4 _ rfl
      have p2 := bp.cell 7 _ rfl
      have l1' := bp.lt
      have l2' := bd.lt
      have l3' := hat.blk.lt
      have zr := hbel.size
      have mixed : Tryd.prog.follows .mixedOrders = true := by kernel_rfl
      clear bp bd hat hrow hsp hbel rd hm hRR
      go_wp2_with fail
      go_region_with (go_at_call 75; (with_reducible refine (HRM.out _).mono ?_); rintro e w3 ⟨vr, rfl, or3, hb3⟩)
      all_goals
        obtain ⟨ar, cr, rfl, rr, _⟩ := own_rd or3
        have hb3' := below_then (show Below wr.heap.size wr _ by (repeat (first | (with_reducible exact Below.refl _ _) | (with_reducible assumption) | (with_reducible refine below_alloc ?_ _) | (with_reducible refine below_drewN ?_ _) | (with_reducible refine Below.drew ?_) | (with_reducible refine below_then ?_ (by with_reducible assumption)) | (with_reducible refine Below.setCell ?_ (by go_size) _)))) hb3
        have A3 := hl_keep HAT.out hb3'
        have R3 := own_keep HROW.out hb3'
        have hnil := own_none or3
        have HB3w := Lib.hid hb3'
        have hb3s := hb3'.size
        have HB3 := Lib.hid (hb3'.mono (show Bl ≤ wr.heap.size by omega))
        have a0 := A3.blk.cell 0 _ rfl
        have z3 := A3.blk.lt
        have HA3 := Lib.hid A3
        have HR3 := Lib.hid R3
        have HRR := Lib.hid rr
        have hxl : (xs ++ cabsOf d p 1 (L.take i)).length = xs.length + (cabsOf d p 1 (L.take i)).length := List.length_append
        clear or3 hb3 hb3' A3 R3 rr e0 e1 e2 p1 p2 hc
        go_wp2_with (at_builtin; refine wpList_addA _ rfl _ _ 38 rfl 3 i0 (.int .i64 0) 1 8 Tryd.underlying38 hi iz0 iz1 iz2 rfl (by decide) (by decide) (Bl + 1) ?q1 _ rfl _ _ HA3.out.row ar R.length cr (ic' R) rfl ?q2 hnil HRR.out (ic'_one R) ?q5 ?_)
        case q1 => omega
        case q2 => rw [ic'_len]; omega
        case q5 => omega
        intro v4 w4 o4 g4 at4
        obtain ⟨b4, c4, e4, _, _⟩ := own_rd o4
        have n4 := own_below HA3.out.row g4 (by omega)
        have B4 := own_grown HA3.out.blk g4 (own_apart HA3.out.row (by omega))
        have R4 := row_grown HR3.out g4 (fun g hg => HSP.out g hg)
        have S4 : ∀ g, Value.ownBlock (.slice (some ⟨g0, off, none⟩) L.length cL) = some g → v4.ownBlock ≠ some g := fun g hg he => by
          rcases at4 with e | e
          · exact HSP.out g hg (e ▸ he)
          · have := own_lt HR3.out hg
            rw [e] at he
            cases he
            omega
        have zz := HBE.out.size
        have zy := hb3s
        have K1 : ∀ b, b < w.heap.size → b ≠ Bl → v.ownBlock ≠ some b → (w4.setCell ⟨Bl, 0, none⟩ v4).heap[b]? = w.heap[b]? := fun b hb hne hv => by
          rw [Below.heap_setCell w4 ⟨Bl, 0, none⟩ v4 b hne, g4.block b (by omega) (fun e => by rcases HK2.out b e.symm with h | h; exact hv h; omega), HB3w.out.block b (by omega)]
          exact HK1.out b hb hne hv
        have K2 : ∀ g, v4.ownBlock = some g → v.ownBlock = some g ∨ w.heap.size ≤ g := fun g hg => by
          rcases at4 with e | e
          · exact HK2.out g (e ▸ hg)
          · rw [e] at hg
            cases hg
            right
            omega
        have HKA := Lib.hid K1
        have HKB := Lib.hid K2
        have hb4 := (HBE.out.trans HB3.out).trans (n4.mono (by omega))
        have b40 := B4.cell 0 _ rfl
        have f40 := B4.frozen 0
        have HB4 := Lib.hid B4
        have HR4 := Lib.hid R4
        have o5 := o4
        rw [show xs.length + (cabsOf d p 1 (L.take i)).length + R.length = (xs ++ (cabsOf d p 1 (L.take i) ++ R)).length by rw [List.length_append, List.length_append]; omega, show ic' (xs ++ cabsOf d p 1 (L.take i)) ++ ic' R = ic' (xs ++ (cabsOf d p 1 (L.take i) ++ R)) by simp [ic']] at o5
        rw [← htk.out] at o5
        have HO4 := Lib.hid o5
        have HS4 := Lib.hid S4
        have HE4 := Lib.hid hb4
        clear B4 R4 o4 g4 at4 n4 S4 hb4 a0 hxl K1 K2 o5
        subst e4
        go_wp2_with fail
        go_roundw
        case rel => exact ⟨i + 1, _, by omega, by go_num, HE4.out.setCell (p := ⟨Bl, 0, none⟩) (by simp) _, ⟨HB4.out.set 0 _, row_set _ HO4.out (by omega)⟩, row_set _ HR4.out (by omega), HS4.out, HKA.out, HKB.out⟩
        case measure => (simp [intOf] <;> omega)
    · obtain rfl : i = L.length := by omega
      rw [List.take_length] at hat
      have HAT2 := Lib.hid hat
      clear hat hrow hsp hbel
      go_wp2_with fail
      go_end0
      exact ⟨⟨_, rfl⟩, HBE.out, HK1.out, v', by rw [HQ.out]; exact HAT2.out, HK2.out⟩
end

section
open Go.RowKit Go.Shelf


set_option maxRecDepth 100000 in set_option maxHeartbeats 4000000 in
theorem place_along2 (d : V3) (p : Pl) (Bp Bd Bl : Nat) (v : Value) (xs : List Int) (w : World) (hd : d.may) (hb : p.b.may d) (bp : Blk w Bp 28 #[.int .i64 p.b.b.x, .int .i64 p.b.b.y, .int .i64 p.b.b.z, .int .i64 p.b.s.x, .int .i64 p.b.s.y, .int .i64 p.b.s.z, .bool p.t0, .bool p.t1, .bool p.t2]) (bd : Blk w Bd 23 #[.int .i64 d.x, .int .i64 d.y, .int .i64 d.z]) (hl : AtL w Bl v xs) (h1 : Bp < Bl) (h2 : Bd < Bl) (hx : xs.length ≤ 200000) :
    Calls Tryd.prog 74 #[.int .i64 2, .pointer (some ⟨Bp, 0, none⟩), .pointer (some ⟨Bd, 0, none⟩), .pointer (some ⟨Bl, 0, none⟩)] w (fun e w' => (∃ u, e = .returned u) ∧ Below Bl w w' ∧ (∀ b, b < w.heap.size → b ≠ Bl → v.ownBlock ≠ some b → w'.heap[b]? = w.heap[b]?) ∧ ∃ v', AtL w' Bl v' (xs ++ cabs d p 2) ∧ (∀ g, v'.ownBlock = some g → v.ownBlock = some g ∨ w.heap.size ≤ g)) := by
  obtain ⟨i0, hi, iz0, iz1, iz2⟩ := info_parts infoInt
  have HN := Lib.hid (fun W => show Calls Tryd.prog 15 #[.agg #[.int .i64 d.x, .int .i64 d.y, .int .i64 d.z], .agg #[.int .i64 p.b.b.x, .int .i64 p.b.b.y, .int .i64 p.b.b.z, .int .i64 p.b.s.x, .int .i64 p.b.s.y, .int .i64 1]] W (RIE W ((p.b.thin 2).all d) 0) from box_Nodes_ok d (p.b.thin 2) W hd (Bx.thin_may hb 2 (by decide)))
  have HLL := Lib.hid (Bx.all_len' d (p.b.thin 2) hd)
  have HR := Lib.hid (fun m W (hm : m ∈ (p.b.thin 2).all d) => along_run (d := d) (p := p) hd hb (k := 2) (by decide) W (Bx.mem_all' hm))
  have HQ := Lib.hid (show cabs d p 2 = cabsOf d p 2 ((p.b.thin 2).all d) from rfl)
  generalize (p.b.thin 2).all d = L at *
  have HP := Lib.hid bp
  have HD := Lib.hid bd
  have HA := Lib.hid hl
  have c0 := bp.cell 0 _ rfl
  have c1 := bp.cell 1 _ rfl
  have c2 := bp.cell 2 _ rfl
  have c3 := bp.cell 3 _ rfl
  have c4 := bp.cell 4 _ rfl
  have c5 := bp.cell 5 _ rfl
  have e0 := bd.cell 0 _ rfl
  have e1 := bd.cell 1 _ rfl
  have e2 := bd.cell 2 _ rfl
  have l1 := bp.lt
  have l2 := bd.lt
  have l3 := hl.blk.lt
  clear bp bd hl hd hb
  go_enter Tryd.func74, Tryd.ntmps74
  go_wp2_with fail
  refine (HN.out _).mono ?_
  rintro e w2 ⟨vL, rfl, oL, hb2⟩
  obtain ⟨bL, cL, rfl, _, _⟩ := own_rd oL
  have HB2 := Lib.hid (below_then (show Below w.heap.size w (w.alloc (.cells #[.int .i64 p.b.b.x, .int .i64 p.b.b.y, .int .i64 p.b.b.z, .int .i64 p.b.s.x, .int .i64 p.b.s.y, .int .i64 1] 25)) by (repeat (first | (with_reducible exact Below.refl _ _) | (with_reducible assumption) | (with_reducible refine below_alloc ?_ _) | (with_reducible refine below_drewN ?_ _) | (with_reducible refine Below.drew ?_) | (with_reducible refine below_then ?_ (by with_reducible assumption)) | (with_reducible refine Below.setCell ?_ (by go_size) _)))) hb2)
  rw [World.size_alloc] at oL
  have A2 := Lib.hid (hl_keep HA.out HB2.out)
  have hsep := own_sep HA.out.row oL (by omega)
  have OL := Lib.hid (show w2.ownsRow (w.heap.size + 1) 3 1 (.slice bL L.length cL) L.length (ic' L) from oL)
  have HSEP := Lib.hid hsep
  clear oL hb2 hsep c0 c1 c2 c3 c4 c5 e0 e1 e2
  go_wp2_with fail
  go_loopw [25] (fun x wr => ∃ (i : Nat) (v' : Value), i ≤ L.length ∧ x = .int .i64 i ∧ Below Bl w wr ∧ AtL wr Bl v' (xs ++ cabsOf d p 2 (L.take i)) ∧ wr.ownsRow (w.heap.size + 1) 3 1 (.slice bL L.length cL) L.length (ic' L) ∧ (∀ g, Value.ownBlock (.slice bL L.length cL) = some g → v'.ownBlock ≠ some g) ∧ (∀ b, b < w.heap.size → b ≠ Bl → v.ownBlock ≠ some b → wr.heap[b]? = w.heap[b]?) ∧ (∀ g, v'.ownBlock = some g → v.ownBlock = some g ∨ w.heap.size ≤ g)) (fun x _ => L.length - (intOf x).toNat)
  case atStart => exact ⟨0, v, Nat.zero_le _, rfl, HB2.out.mono (by omega), by rw [List.take_zero, show cabsOf d p 2 [] = [] from rfl, List.append_nil]; exact A2.out, OL.out, HSEP.out, fun b hb _ _ => HB2.out.block b hb, fun g hg => .inl hg⟩
  case round =>
    obtain ⟨i, v', hi', rfl, hbel, hat, hrow, hsp, hk1, hk2⟩ := hrel
    have HAT := Lib.hid hat
    have HROW := Lib.hid hrow
    have HSP := Lib.hid hsp
    have HK1 := Lib.hid hk1
    have HK2 := Lib.hid hk2
    clear hk1 hk2
    have HBE := Lib.hid hbel
    by_cases hlt : i < L.length
    · obtain ⟨bx, cx, e, rd, _⟩ := own_rd hrow
      cases e
      obtain ⟨g0, off, e, hc⟩ := rd i _ (getElem?_map_int hlt)
      subst e
      obtain ⟨m, hm⟩ : ∃ m, m = L[i] := ⟨_, rfl⟩
      obtain ⟨R, hRR⟩ : ∃ R, R = d.runV ((2 : Nat) : Int) m (p.b.s.at 2) (p.tor 2) := ⟨_, rfl⟩
      have HRM := Lib.hid (fun W => show Calls Tryd.prog 75 #[.agg #[.int .i64 d.x, .int .i64 d.y, .int .i64 d.z], .int .i64 2, .int .i64 m, .int .i64 p.b.s.z, .bool p.t2] W (RLE W R 0) from by have := HR.out m W (by rw [hm]; exact List.getElem_mem hlt); rw [← hRR] at this; exact this)
      rw [← hm] at hc
      have htk := Lib.hid (show cabsOf d p 2 (L.take (i + 1)) = cabsOf d p 2 (L.take i) ++ R by rw [List.take_succ_eq_append_getElem hlt, cabsOf_snoc, ← hm, hRR])
      have hrl := d.runV_len ((2 : Nat) : Int) m (p.b.s.at 2) (p.tor 2)
      rw [← hRR] at hrl
      have hcl := cabsOf_len d p 2 (L.take i)
      rw [List.length_take] at hcl
      have hll := HLL.out
      have bp := HP.out.keep hbel h1
      have bd := HD.out.keep hbel h2
      have e0 := bd.cell 0 _ rfl
      have e1 := bd.cell 1 _ rfl
      have e2 := bd.cell 2 _ rfl
      have p1 := bp.cell 5 _ rfl
      have p2 := bp.cell 8 _ rfl
      have l1' := bp.lt
      have l2' := bd.lt
      have l3' := hat.blk.lt
      have zr := hbel.size
      have mixed : Tryd.prog.follows .mixedOrders = true := by kernel_rfl
      clear bp bd hat hrow hsp hbel rd hm hRR
      go_wp2_with fail
      go_region_with (go_at_call 75; (with_reducible refine (HRM.out _).mono ?_); rintro e w3 ⟨vr, rfl, or3, hb3⟩)
      all_goals
        obtain ⟨ar, cr, rfl, rr, _⟩ := own_rd or3
        have hb3' := below_then (show Below wr.heap.size wr _ by (repeat (first | (with_reducible exact Below.refl _ _) | (with_reducible assumption) | (with_reducible refine below_alloc ?_ _) | (with_reducible refine below_drewN ?_ _) | (with_reducible refine Below.drew ?_) | (with_reducible refine below_then ?_ (by with_reducible assumption)) | (with_reducible refine Below.setCell ?_ (by go_size) _)))) hb3
        have A3 := hl_keep HAT.out hb3'
        have R3 := own_keep HROW.out hb3'
        have hnil := own_none or3
        have HB3w := Lib.hid hb3'
        have hb3s := hb3'.size
        have HB3 := Lib.hid (hb3'.mono (show Bl ≤ wr.heap.size by omega))
        have a0 := A3.blk.cell 0 _ rfl
        have z3 := A3.blk.lt
        have HA3 := Lib.hid A3
        have HR3 := Lib.hid R3
        have HRR := Lib.hid rr
        have hxl : (xs ++ cabsOf d p 2 (L.take i)).length = xs.length + (cabsOf d p 2 (L.take i)).length := List.length_append
        clear or3 hb3 hb3' A3 R3 rr e0 e1 e2 p1 p2 hc
        go_wp2_with (at_builtin; refine wpList_addA _ rfl _ _ 38 rfl 3 i0 (.int .i64 0) 1 8 Tryd.underlying38 hi iz0 iz1 iz2 rfl (by decide) (by decide) (Bl + 1) ?q1 _ rfl _ _ HA3.out.row ar R.length cr (ic' R) rfl ?q2 hnil HRR.out (ic'_one R) ?q5 ?_)
        case q1 => omega
        case q2 => rw [ic'_len]; omega
        case q5 => omega
        intro v4 w4 o4 g4 at4
        obtain ⟨b4, c4, e4, _, _⟩ := own_rd o4
        have n4 := own_below HA3.out.row g4 (by omega)
        have B4 := own_grown HA3.out.blk g4 (own_apart HA3.out.row (by omega))
        have R4 := row_grown HR3.out g4 (fun g hg => HSP.out g hg)
        have S4 : ∀ g, Value.ownBlock (.slice (some ⟨g0, off, none⟩) L.length cL) = some g → v4.ownBlock ≠ some g := fun g hg he => by
          rcases at4 with e | e
          · exact HSP.out g hg (e ▸ he)
          · have := own_lt HR3.out hg
            rw [e] at he
            cases he
            omega
        have zz := HBE.out.size
        have zy := hb3s
        have K1 : ∀ b, b < w.heap.size → b ≠ Bl → v.ownBlock ≠ some b → (w4.setCell ⟨Bl, 0, none⟩ v4).heap[b]? = w.heap[b]? := fun b hb hne hv => by
          rw [Below.heap_setCell w4 ⟨Bl, 0, none⟩ v4 b hne, g4.block b (by omega) (fun e => by rcases HK2.out b e.symm with h | h; exact hv h; omega), HB3w.out.block b (by omega)]
          exact HK1.out b hb hne hv
        have K2 : ∀ g, v4.ownBlock = some g → v.ownBlock = some g ∨ w.heap.size ≤ g := fun g hg => by
          rcases at4 with e | e
          · exact HK2.out g (e ▸ hg)
          · rw [e] at hg
            cases hg
            right
            omega
        have HKA := Lib.hid K1
        have HKB := Lib.hid K2
        have hb4 := (HBE.out.trans HB3.out).trans (n4.mono (by omega))
        have b40 := B4.cell 0 _ rfl
        have f40 := B4.frozen 0
        have HB4 := Lib.hid B4
        have HR4 := Lib.hid R4
        have o5 := o4
        rw [show xs.length + (cabsOf d p 2 (L.take i)).length + R.length = (xs ++ (cabsOf d p 2 (L.take i) ++ R)).length by rw [List.length_append, List.length_append]; omega, show ic' (xs ++ cabsOf d p 2 (L.take i)) ++ ic' R = ic' (xs ++ (cabsOf d p 2 (L.take i) ++ R)) by simp [ic']] at o5
        rw [← htk.out] at o5
        have HO4 := Lib.hid o5
        have HS4 := Lib.hid S4
        have HE4 := Lib.hid hb4
        clear B4 R4 o4 g4 at4 n4 S4 hb4 a0 hxl K1 K2 o5
        subst e4
        go_wp2_with fail
        go_roundw
        case rel => exact ⟨i + 1, _, by omega, by go_num, HE4.out.setCell (p := ⟨Bl, 0, none⟩) (by simp) _, ⟨HB4.out.set 0 _, row_set _ HO4.out (by omega)⟩, row_set _ HR4.out (by omega), HS4.out, HKA.out, HKB.out⟩
        case measure => (simp [intOf] <;> omega)
    · obtain rfl : i = L.length := by omega
      rw [List.take_length] at hat
      have HAT2 := Lib.hid hat
      clear hat hrow hsp hbel
      go_wp2_with fail
      go_end0
      exact ⟨⟨_, rfl⟩, HBE.out, HK1.out, v', by rw [HQ.out]; exact HAT2.out, HK2.out⟩
end
end Go.Proofs.YthabpiphfaedaaaDoor
