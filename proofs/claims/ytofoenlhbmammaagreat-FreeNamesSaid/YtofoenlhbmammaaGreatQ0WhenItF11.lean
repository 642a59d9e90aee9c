/- WHEN: all slots of a machine's calendars, one after another; a map's keys. -/
import Derived.RangeFuncNested
import Derived.RangeFuncBound
import Derived.RangeFuncCalls
import Derived.RangeFuncLeaves
import Derived.RangeFuncBox
import Derived.Shelf.Abstract
import Derived.Shelf.RegionOpen
import Derived.WalkKit
import Derived.OwnWalkIn
import Derived.TacticsInMore
import Derived.LoopNIn
import Derived.LoopIn
import Derived.Maps.OwnIn
import Derived.Lib.SlKeysI
import Derived.Test.YtofoenlhbmammaaGreatQ0WhenRefF11
set_option linter.unusedVariables false
set_option linter.unusedSimpArgs false
namespace Go.Proofs.YtofoenlhbmammaaGreat

section
section
open Go.RowKit Go.Shelf
attribute [local go_sem] Oper.semAt_some

/-- A number, out of a value. -/
def valNum : Value → Int
  | .int _ a => a
  | _ => 0
/-- A slot whose end a number may be. -/
abbrev SlA := { s : Sl // (Lit.int .i64 s.t).wf = true }
def encA (x : SlA) : Array Value := #[.agg #[.int .i64 x.1.f, .int .i64 x.1.t, .int .i64 x.1.o]]
/-- What a round keeps: all below a block; and all cells but for one block's. -/
structure KpC (n₀ B : Nat) (W W' : World) : Prop where
  below : Below n₀ W W'
  cells : ∀ b o, b ≠ B → W.heap[b]? = some o → o.isCells = true → W'.heap[b]? = some o
theorem kpC_t {n₀ B : Nat} {X Y Z : World} (h : KpC n₀ B X Y) (k : KpC n₀ B Y Z) : KpC n₀ B X Z := ⟨h.below.trans k.below, fun b o hb ho hc => k.cells b o hb (h.cells b o hb ho hc) hc⟩
theorem kpC_b {w : World} {n₀ B : Nat} (hn : n₀ ≤ w.heap.size) (W : World) (l : Nat) (o o' : Obj) (hl : w.heap.size ≤ l) (he : W.heap[l]? = some o) (h1 : o.isCells = false) (h2 : o.isWalk = false) : KpC n₀ B W (W.putObj l o') :=
  ⟨belowK_b hn W l o o' hl he h1 h2, fun b p hb hp hc => by
    by_cases e : b = l
    · subst e; rw [he] at hp; cases hp; rw [h1] at hc; cases hc
    · exact (World.putObj_heap_other (by omega)).trans hp⟩
theorem KpC.blk {n₀ B b : Nat} {W W' : World} {t : TypeId} {cs : Array Value} (h : KpC n₀ B W W') (hb : Blk W b t cs) (hne : b ≠ B) : Blk W' b t cs := h.cells b _ hne hb rfl
/-- What is still to come where a list of the two is begun. -/
def Yd.remL (y : Yd) : Nat → List Sl
  | 0 => y.all
  | 1 => y.ls.flatten
  | _ => []
theorem lists_at {w wr : World} {y : Yd} {bn bl : Option Addr} {cn cl Bl : Nat} {t : TypeId} (hb : Blk wr Bl t #[.slice bn y.ns.length cn, .slice bl y.ls.length cl]) (h1 : CC w bn y.ns) (h2 : CC w bl y.ls) {k : Nat} (hk : k < 2) :
    ∃ b cap L, wr.cell? ⟨Bl, k, none⟩ = some (.slice b (List.length L) cap) ∧ CC w b L ∧ y.remL k = L.flatten ++ y.remL (k + 1) := by
  match k, hk with
  | 0, _ => exact ⟨bn, cn, y.ns, hb.cell 0 _ rfl, h1, rfl⟩
  | 1, _ => exact ⟨bl, cl, y.ls, hb.cell 1 _ rfl, h2, by show y.ls.flatten = y.ls.flatten ++ []; simp⟩
theorem flat_drop {L : List (List Sl)} {m : Nat} (hm : m < L.length) (R : List Sl) : (L.drop m).flatten ++ R = L[m] ++ ((L.drop (m + 1)).flatten ++ R) := by
  rw [List.drop_eq_getElem_cons hm, List.flatten_cons, List.append_assoc]
theorem rest_cons {rest : List SlA} {c R : List Sl} {q : Nat} (hq : q < c.length) (h : rest.map Subtype.val = c.drop q ++ R) : ∃ x rest', rest = x :: rest' ∧ c[q] = x.1 ∧ rest'.map Subtype.val = c.drop (q + 1) ++ R := by
  rw [List.drop_eq_getElem_cons hq] at h
  cases rest with
  | nil => cases h
  | cons x rest' =>
    rw [List.map_cons, List.cons_append] at h
    exact ⟨x, rest', rfl, (List.cons.inj h).1.symm, (List.cons.inj h).2⟩
set_option maxRecDepth 100000 in set_option maxHeartbeats 4000000 in
theorem slots1_in (F : Fence) (n : Nat) (hf : F.fn 118) (hro : F.round = none) (hn : 1 ≤ n) (l By B : Nat) (y : Yd) (bn bl : Option Addr) (cn cl : Nat) (w : World) (h1 : CC w bn y.ns) (h2 : CC w bl y.ls) (xs : List SlA) (hxs : xs.map Subtype.val = y.all) (J Jx : List SlA → World → Prop)
    (hY : ∀ pre x W, J pre W → pre.length < xs.length → YieldAt F (n - 1) Tryz.prog l (encA x) W fun e W' =>
      (e = .returned (.bool true) ∧ J (pre ++ [x]) W' ∧ KpC w.heap.size B W W') ∨ (e = .returned (.bool false) ∧ Jx (pre ++ [x]) W'))
    (W : World) (hW : Below w.heap.size w W) (hy : Blk W By 26 #[.int .i64 y.d.x, .int .i64 y.d.y, .int .i64 y.d.z, (.slice bn y.ns.length cn), (.slice bl y.ls.length cl)]) (hB : B < W.heap.size) (hJ : AbidesFrom W.heap.size J) (h0 : J [] W) :
    CallsIn F n Tryz.prog 118 #[.func (.yield l) #[] #[], .pointer (some ⟨By, 0, none⟩)] W fun e W' => (∃ v, e = .returned v) ∧
      ((∃ ys, ys = xs ∧ J ys W') ∨ (∃ pre, pre <+: xs ∧ Jx pre W')) := by
  have y3 := hy.cell 3 _ rfl
  have y4 := hy.cell 4 _ rfl
  have HN := Lib.hid h1
  have HL := Lib.hid h2
  have HJ := Lib.hid (fun s X o (h : J s X) => hJ s X (X.alloc o) none h (World.grownBy_alloc X o none) (fun r e => by cases e))
  have HYd := Lib.hid hY
  have hWs := hW.size
  have HX := Lib.hid hxs
  have HW0 := Lib.hid hW
  clear hy h1 h2 hJ hY hxs hW
  refine callsIn_of_wp Tryz.func118 rfl hf ?_ hro
  simp only [Tryz.ntmps118, List.size_toArray, List.length_cons, List.length_nil, Nat.reduceAdd, Nat.reduceSub, Array.replicate_succ, Array.replicate_zero, List.push_toArray, List.append_toArray, List.nil_append, List.cons_append]
  gi_wp2
  gi_loopw [15] (fun i wr => ∃ (k : Nat) (pre rest : List SlA), k ≤ 2 ∧ i = .int .i64 k ∧ xs = pre ++ rest ∧ rest.map Subtype.val = y.remL k ∧ J pre wr ∧ Blk wr W.heap.size 24 #[.slice bn y.ns.length cn, .slice bl y.ls.length cl] ∧ Below w.heap.size w wr) (fun i _ => 2 - (valNum i).toNat)
  case atStart =>
    exact ⟨0, [], xs, by omega, rfl, rfl, HX.out, HJ.out _ _ _ h0, Blk.new .., below_alloc HW0.out _⟩
  case round =>
    clear y3 y4 h0 HW0
    obtain ⟨k, pre, rest, hk, rfl, hx, hr, hJs, hbk, hbe⟩ := hrel
    have HJs := Lib.hid hJs
    have HBk := Lib.hid hbk
    have HBe := Lib.hid hbe
    have HXs := Lib.hid hx
    clear hJs hx
    by_cases hlt : k < 2
    · obtain ⟨b, cap, L, hcell, hcc, hrem⟩ := lists_at hbk HN.out HL.out hlt
      have HC := Lib.hid hcc
      have m9 := hcc.many
      obtain ⟨R, hR0⟩ : ∃ R, R = y.remL (k + 1) := ⟨_, rfl⟩
      rw [hrem, ← hR0] at hr
      have HR := Lib.hid hr
      have HR0 := Lib.hid hR0
      clear hbk hbe hcc hrem hr hR0
      have hd2 : decide ((k : Int) < 2) = true := decide_eq_true (by omega)
      gi_wp2
      clear hcell
      gi_loopw [21] (fun i wr => ∃ (m : Nat) (pre rest : List SlA), m ≤ L.length ∧ i = .int .i64 m ∧ xs = pre ++ rest ∧ rest.map Subtype.val = (L.drop m).flatten ++ R ∧ J pre wr ∧ Blk wr W.heap.size 24 #[.slice bn y.ns.length cn, .slice bl y.ls.length cl] ∧ Below w.heap.size w wr) (fun i _ => L.length - (valNum i).toNat)
      case atStart => exact ⟨0, pre, rest, Nat.zero_le _, rfl, HXs.out, HR.out, HJs.out, HBk.out, HBe.out⟩
      case round =>
        clear HJs HBk HBe HXs HR
        obtain ⟨m, pre, rest, hm, rfl, hx, hr, hJs, hbk, hbe⟩ := hrel
        have HJs := Lib.hid hJs
        have HBk := Lib.hid hbk
        have HBe := Lib.hid hbe
        have HXs := Lib.hid hx
        clear hJs hx hbk
        by_cases hlm : m < L.length
        · obtain ⟨c, hc⟩ : ∃ c, c = L[m] := ⟨_, rfl⟩
          obtain ⟨g, o, b2, cap2, e, hcell0, hgl, hcs, _⟩ := HC.out.at (show L[m]? = some c by rw [hc]; exact List.getElem?_eq_getElem hlm)
          subst e
          have hcell := (hbe.cell (p := ⟨g, o + m, none⟩) hgl).trans hcell0
          obtain ⟨R2, hR2⟩ : ∃ R2, R2 = (L.drop (m + 1)).flatten ++ R := ⟨_, rfl⟩
          rw [flat_drop hlm, ← hc, ← hR2] at hr
          have HR := Lib.hid hr
          have HR2 := Lib.hid hR2
          have hcl := hcs.len
          have HS := Lib.hid hcs
          clear hr hbe hc hcs hcell0 hR2
          gi_wp2
          clear hcell
          gi_loopw [27] (fun i wr => ∃ (q : Nat) (pre rest : List SlA), q ≤ c.length ∧ i = .int .i64 q ∧ xs = pre ++ rest ∧ rest.map Subtype.val = c.drop q ++ R2 ∧ J pre wr ∧ Blk wr W.heap.size 24 #[.slice bn y.ns.length cn, .slice bl y.ls.length cl] ∧ Below w.heap.size w wr) (fun i _ => c.length - (valNum i).toNat)
          case atStart => exact ⟨0, pre, rest, Nat.zero_le _, rfl, HXs.out, HR.out, HJs.out, HBk.out, HBe.out⟩
          case round =>
            clear HJs HBk HBe HXs HR
            obtain ⟨q, pre, rest, hq, rfl, hx, hr, hJs, hbk, hbe⟩ := hrel
            by_cases hlq : q < c.length
            · obtain ⟨x, rest', rfl, hxq, hr'⟩ := rest_cons hlq hr
              obtain ⟨b, off, e, c0, c1, c2, hbl⟩ := (HS.out.keep hbe).at hlq
              subst e
              rw [hxq] at c0 c1 c2
              obtain ⟨fn, tmps, assign, body, hyy, hRd⟩ := HYd.out pre x _ (HJ.out _ _ (.cells #[.int .i64 x.1.f, .int .i64 x.1.t, .int .i64 x.1.o] 68) hJs) (by rw [hx]; simp)
              dsimp only [encA] at hyy
              have HBk := Lib.hid hbk
              have HBe := Lib.hid hbe
              have HXs := Lib.hid (show xs = (pre ++ [x]) ++ rest' by rw [hx]; simp)
              have HR' := Lib.hid hr'
              clear hbk hbe hx hr hr' hJs hxq
              gi_wp2
              refine hRd.mono ?_
              rintro e W3 (⟨rfl, hJ3, hk3⟩ | ⟨rfl, hJx3⟩)
              · have HJ3 := Lib.hid hJ3
                have HB3 := Lib.hid (hk3.blk (HBk.out.alloc _) (by omega))
                have HE3 := Lib.hid ((below_alloc HBe.out (.cells #[.int .i64 x.1.f, .int .i64 x.1.t, .int .i64 x.1.o] 68)).trans hk3.below)
                clear hJ3 hk3 hRd hyy c0 c1 c2
                gi_wp2
                go_roundw
                case rel => exact ⟨q + 1, pre ++ [x], rest', by omega, by go_num, HXs.out, HR'.out, HJ3.out, HB3.out, HE3.out⟩
                case measure => (simp [valNum] <;> omega)
              · gi_wp2
                refine bodyPost_ret (results_none rfl _ _ _) rfl ?_
                exact ⟨⟨_, rfl⟩, .inr ⟨pre ++ [x], ⟨rest', HXs.out.symm⟩, hJx3⟩⟩
            · obtain rfl : q = c.length := by omega
              rw [List.drop_length, List.nil_append, HR2.out] at hr
              have HR' := Lib.hid hr
              have HJs := Lib.hid hJs
              have HBk := Lib.hid hbk
              have HBe := Lib.hid hbe
              have HXs := Lib.hid hx
              clear hr hJs hbk hbe hx
              gi_wp2
              go_roundw
              case rel => exact ⟨m + 1, pre, rest, by omega, by go_num, HXs.out, HR'.out, HJs.out, HBk.out, HBe.out⟩
              case measure => (simp [valNum] <;> omega)
        · obtain rfl : m = L.length := by omega
          rw [List.drop_length, List.flatten_nil, List.nil_append, HR0.out] at hr
          have HR' := Lib.hid hr
          have HBe := Lib.hid hbe
          have HBk2 := HBk
          clear hr hbe
          gi_wp2
          go_roundw
          case rel => exact ⟨k + 1, pre, rest, by omega, by go_num, HXs.out, HR'.out, HJs.out, HBk.out, HBe.out⟩
          case measure => (simp [valNum] <;> omega)
    · obtain rfl : k = 2 := by omega
      have hre : rest = [] := List.map_eq_nil_iff.1 hr
      subst hre
      have hx2 : pre = xs := by have := HXs.out; rw [List.append_nil] at this; exact this.symm
      clear hr hbk hbe
      gi_wp2
      go_end0
      exact ⟨⟨_, rfl⟩, .inl ⟨pre, hx2, HJs.out⟩⟩
theorem slots_in (F : Fence) (n : Nat) (hf : F.fn 101) (hro : F.round = none) (d : V3) (u v : Value) (w : World) :
    CallsIn F n Tryz.prog 101 #[.agg #[.int .i64 d.x, .int .i64 d.y, .int .i64 d.z, u, v]] w fun e w' => e = .returned (.func (.func 118) #[] #[.pointer (some ⟨w.heap.size, 0, none⟩)]) ∧ w' = w.alloc (.cells #[.int .i64 d.x, .int .i64 d.y, .int .i64 d.z, u, v] 26) := by
  refine callsIn_of_wp Tryz.func101 rfl hf ?_ hro
  simp only [Tryz.ntmps101, List.size_toArray, List.length_cons, List.length_nil, Nat.reduceAdd, Nat.reduceSub, Array.replicate_succ, Array.replicate_zero, List.push_toArray, List.append_toArray, List.nil_append, List.cons_append]
  gi_wp2
  go_ret
  exact ⟨rfl, rfl⟩
theorem slots_stops (F : Fence) (n : Nat) (hf : F.fn 118) (hro : F.round = none) (hn : 1 ≤ n) (By B : Nat) (y : Yd) (bn bl : Option Addr) (cn cl : Nat) (w w0 : World) (h1 : CC w bn y.ns) (h2 : CC w bl y.ls) (xs : List SlA) (hxs : xs.map Subtype.val = y.all)
    (hw : Below w.heap.size w w0) (hy : Blk w0 By 26 #[.int .i64 y.d.x, .int .i64 y.d.y, .int .i64 y.d.z, (.slice bn y.ns.length cn), (.slice bl y.ls.length cl)]) (hB : B < w0.heap.size) :
    SeqStopsK F n Tryz.prog 118 #[.pointer (some ⟨By, 0, none⟩)] encA (KpC w.heap.size B) (fun ys => ys = xs) (fun pre => pre <+: xs) xs.length w0 := fun l J Jx W hW hJ _ hY h0 =>
  slots1_in F n hf hro hn l By B y bn bl cn cl w h1 h2 xs hxs J Jx hY W (hw.trans (hW.mono hw.size)) (hy.below hW) (by have := hW.size; omega) hJ h0
end

section
open Go.RowKit Go.Shelf Go.Maps

/-- The map that holds each of a list's numbers. -/
def mapOf {H : Type} (l : List Int) : DataW H := Maps.setOf (.lit (.bool true)) (l.map (Lit.int .i64))
theorem mapOf_snoc {H : Type} (l : List Int) (x : Int) : mapOf (H := H) (l ++ [x]) = (mapOf l).put (.int .i64 x) (.lit (.bool true)) := by
  unfold mapOf
  rw [List.map_append, List.map_cons, List.map_nil, Maps.setOf_snoc]
theorem mapOf_has {H : Type} (l : List Int) (x : Int) : Maps.has (mapOf (H := H) l) (.int .i64 x) = true ↔ x ∈ l := by
  unfold mapOf
  rw [Maps.has_setOf _ _ _ (fun y hy => by obtain ⟨a, _, rfl⟩ := List.mem_map.1 hy; trivial)]
  rw [List.any_eq_true]
  constructor
  · rintro ⟨y, hy, hs⟩
    obtain ⟨a, ha, rfl⟩ := List.mem_map.1 hy
    have : a = x := by simpa [Lit.sameKey] using hs
    exact this ▸ ha
  · intro hx
    exact ⟨_, List.mem_map.2 ⟨x, hx, rfl⟩, by simp [Lit.sameKey]⟩
/-- The keys, in whatever order, sorted: the document's list. -/
theorem keys_of_own {H : Type} {P : Program} {k : TypeId} {R : Value → Option (DataW H × List MemPlace)} {w : World} {b n : Nat} {l : List Int} (hown : w.ownsMap P k R b n (mapOf l)) (K : Keyed P k) (hk : P.underlying k = some (.int .i64)) :
    (pmsL [] l).Perm (intKeys (mapOf (H := H) l)) := by
  obtain ⟨es, hD, hpw, _⟩ := hown.entries K
  obtain ⟨es', hD', hko⟩ := hown.keysOf
  obtain rfl : es = es' := by rw [hD] at hD'; simpa using hD'
  rw [hD]
  refine perm_intKeys hpw (fun p hp => by obtain ⟨v, hv⟩ := hko p hp; obtain ⟨x, _, hx, _⟩ := Maps.keyOf_i64 hk hv; exact ⟨x, hx⟩) ((pmsL_rise .nil).imp (fun h => by omega)) (fun x => ?_)
  rw [← hD, mapOf_has, mem_pmsL]
  simp
theorem sort_of_keys {H : Type} {P : Program} {k : TypeId} {R : Value → Option (DataW H × List MemPlace)} {w : World} {b n : Nat} {l ss : List Int} (hown : w.ownsMap P k R b n (mapOf l)) (K : Keyed P k) (hk : P.underlying k = some (.int .i64)) (hs : ss.Perm (intKeys (mapOf (H := H) l))) :
    ss.mergeSort (fun x y => decide (x ≤ y)) = pmsL [] l := by
  have h := (keys_of_own hown K hk).symm.trans (List.Perm.refl _)
  have h2 := hs.trans h
  refine puts_of_perm (h2.nodup_iff.2 ((pmsL_rise .nil).imp (fun h => by omega))) (fun x => ?_)
  rw [h2.mem_iff, mem_pmsL]
  simp
theorem size_of_keys {H : Type} {P : Program} {k : TypeId} {R : Value → Option (DataW H × List MemPlace)} {w : World} {b n : Nat} {l : List Int} (hown : w.ownsMap P k R b n (mapOf l)) (K : Keyed P k) (hk : P.underlying k = some (.int .i64)) :
    Maps.size (mapOf (H := H) l) ≤ l.length := by
  have h := (keys_of_own hown K hk).length_eq
  obtain ⟨es, hD, _⟩ := hown.entries K
  have e : Maps.size (mapOf (H := H) l) = (intKeys (mapOf (H := H) l)).length := by rw [hD]; show es.length = (es.map _).length; rw [List.length_map]
  have := pmsL_len l []
  simp at this
  omega
/-- What of the slots that came a map holds. -/
def endsA (p : Sl → Bool) (pre : List SlA) : List Int := endsL p (pre.map Subtype.val)
theorem endsA_snoc (p : Sl → Bool) (pre : List SlA) (x : SlA) : endsA p (pre ++ [x]) = endsA p pre ++ (if p x.1 then [x.1.t] else []) := by
  unfold endsA
  rw [List.map_append, List.map_cons, List.map_nil, endsL_snoc]
theorem endsA_len (p : Sl → Bool) (pre : List SlA) : (endsA p pre).length ≤ pre.length := by
  have := endsL_len p (pre.map Subtype.val)
  rw [List.length_map] at this
  exact this
end
end
end Go.Proofs.YtofoenlhbmammaaGreat
