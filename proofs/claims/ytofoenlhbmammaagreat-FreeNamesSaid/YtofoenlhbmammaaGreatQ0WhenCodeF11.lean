/- WHEN: the code's Times, Ends, Last. -/
import Derived.RangeFuncWrites
import Derived.IntWalk
import Derived.Deep.RegionLaw
import Derived.Test.YtofoenlhbmammaaGreatQ2F11
import Derived.Test.YtofoenlhbmammaaGreatQ0CalLawF11
import Derived.Test.YtofoenlhbmammaaGreatShelfKeys
import Derived.Test.YtofoenlhbmammaaGreatQ0WhenItF11
set_option linter.unusedVariables false
set_option linter.unusedSimpArgs false
namespace Go.Proofs.YtofoenlhbmammaaGreat

section
section
open Go.RowKit Go.Shelf Go.Maps
attribute [local go_sem] Oper.semAt_some

theorem blk_own {W W' : World} {B Bx : Nat} {t : TypeId} {cs : Array Value} {row : Option Nat} (h : Blk W Bx t cs) (hg : W.grownBy W' row) (hr : ∀ r, row = some r → B ≤ r ∧ ∃ o : Obj, W.heap[r]? = some o ∧ o.isCells = false) : Blk W' Bx t cs := h.own hg (fun r e => (hr r e).2)
theorem kpC_alloc {n₀ B : Nat} {W : World} (o : Obj) (h : n₀ ≤ W.heap.size) : KpC n₀ B W (W.alloc o) := ⟨(Below.refl _ _).alloc h _, fun b p _ hb _ => (Below.heap_alloc _ _ _ (Array.getElem?_eq_some_iff.1 hb).1).trans hb⟩
theorem kpC_below {n₀ B : Nat} {W W' : World} (h : n₀ ≤ W.heap.size) (hb : Below W.heap.size W W') : KpC n₀ B W W' := ⟨hb.mono h, fun b p _ hp _ => (hb.block b (Array.getElem?_eq_some_iff.1 hp).1).trans hp⟩
theorem kpC_grown {n₀ B : Nat} {W W' : World} (hB : n₀ ≤ B) (h : n₀ ≤ W.heap.size) (hg : W.grownBy W' (some B)) : KpC n₀ B W W' :=
  ⟨(Below.refl _ _).grown hg h (fun k e => by cases e; exact hB), fun b p hb hp _ => (hg.block b (Array.getElem?_eq_some_iff.1 hp).1 (fun e => hb (by cases e; rfl))).trans hp⟩
theorem keeps_below {W W' : World} (hb : Below W.heap.size W W') : KeepsOthers W W' := by
  exact ⟨hb.size, fun k o hk _ => (hb.block k (Array.getElem?_eq_some_iff.1 hk).1).trans hk⟩
theorem bx_below {W W' : World} {B : Nat} {t : TypeId} {v : Value} (h : Boxed W B t v) (hb : Below W.heap.size W W') : Boxed W' B t v := (hb.block _ h.lt).trans h
theorem map_below {H : Type} {P : Program} {k : TypeId} {R : Value → Option (DataW H × List MemPlace)} {W W' : World} {b n : Nat} {D : DataW H} (h : W.ownsMap P k R b n D) (hb : Below W.heap.size W W') : W'.ownsMap P k R b n D := by
  have hbl := h.lt
  obtain ⟨es, clock, h1, h2, h3, h4⟩ := h
  exact ⟨es, clock, (hb.block _ hbl).trans h1, h2, h3, h4⟩
theorem when_sorts (m : Nat) : AnyZI.SortsIn Tryz.prog Tryz.sortedA_ren Fence.wide m :=
  ⟨fun blk off cap ss W hH hblk hsz => callsIn_wide.2 (AnyM.slices_Sort_int Tryz.sortA blk off cap ss W hH hblk hsz), fun p cap W => callsIn_wide.2 (AnyM.slices_Sort_int_none Tryz.sortA p cap W)⟩
set_option maxRecDepth 100000 in set_option maxHeartbeats 4000000 in
theorem when_ends {H : Type} (p : Sl → Bool) (fid : FuncId) (cb : Array Value) (y : Yd) (bn bl : Option Addr) (cn cl : Nat) (w : World) (h1 : CC w bn y.ns) (h2 : CC w bl y.ls) (hlen : y.all.length ≤ 20000000) (xs : List SlA) (hxs : xs.map Subtype.val = y.all)
    (eg : ∀ args w, (callFunc fid args).run Tryz.prog w = .ok (.enter fid args) w) (hask : ∀ (s : Sl) W, Below w.heap.size w W → Calls Tryz.prog fid (#[.agg #[.int .i64 s.f, .int .i64 s.t, .int .i64 s.o]] ++ cb) W (RB W (.bool (p s)))) :
    Calls Tryz.prog 74 #[.agg #[.int .i64 y.d.x, .int .i64 y.d.y, .int .i64 y.d.z, (.slice bn y.ns.length cn), (.slice bl y.ls.length cl)], .func (.func fid) #[] cb] w (RI w (pmsL [] (endsL p y.all))) := by
  have hxl : xs.length = y.all.length := by rw [← hxs, List.length_map]
  refine (callsIn_wide (n := 12)).1 ?_
  have hmm := @run_makeMap Tryz.prog
  refine callsIn_of_wp_marks Tryz.func74 rfl trivial ?_ rfl
  simp only [Tryz.ntmps74, List.size_toArray, List.length_cons, List.length_nil, Nat.reduceAdd, Nat.reduceSub, Array.replicate_succ, Array.replicate_zero, List.push_toArray, List.append_toArray, List.nil_append, List.cons_append]
  gi_wp2_with (refine ⟨trivial, ?_⟩; gi_at_call 101; refine (slots_in Fence.wide _ trivial rfl _ _ _ _).mono ?_; rintro e w' ⟨rfl, rfl⟩)
  have hm0 := World.ownsMap_made ((w.alloc (.cells #[.int .i64 y.d.x, .int .i64 y.d.y, .int .i64 y.d.z, (.slice bn y.ns.length cn), (.slice bl y.ls.length cl)] 26)).alloc (.cells #[.func (.func fid) #[] cb] 118)) Tryz.prog 3 (plainElem (H := H) Tryz.prog 4)
  have bF0 := (Boxed.new (w.alloc (.cells #[.int .i64 y.d.x, .int .i64 y.d.y, .int .i64 y.d.z, (.slice bn y.ns.length cn), (.slice bl y.ls.length cl)] 26)) 118 (.func (.func fid) #[] cb))
  have bM0 := (Boxed.new (((w.alloc (.cells #[.int .i64 y.d.x, .int .i64 y.d.y, .int .i64 y.d.z, (.slice bn y.ns.length cn), (.slice bl y.ls.length cl)] 26)).alloc (.cells #[.func (.func fid) #[] cb] 118)).alloc (.map #[] 0)) 147 (.map (some (w.heap.size + 1 + 1))))
  have bY0 := (Blk.new ((((w.alloc (.cells #[.int .i64 y.d.x, .int .i64 y.d.y, .int .i64 y.d.z, (.slice bn y.ns.length cn), (.slice bl y.ls.length cl)] 26)).alloc (.cells #[.func (.func fid) #[] cb] 118)).alloc (.map #[] 0)).alloc (.cells #[.map (some (w.heap.size + 1 + 1))] 147)) 26 #[.int .i64 y.d.x, .int .i64 y.d.y, .int .i64 y.d.z, (.slice bn y.ns.length cn), (.slice bl y.ls.length cl)])
  simp only [World.size_alloc] at hm0 bF0 bM0 bY0
  have bF1 := ((bF0.alloc (.map #[] 0)).alloc (.cells #[.map (some (w.heap.size + 1 + 1))] 147)).alloc (.cells #[.int .i64 y.d.x, .int .i64 y.d.y, .int .i64 y.d.z, (.slice bn y.ns.length cn), (.slice bl y.ls.length cl)] 26)
  have bM1 := bM0.alloc (.cells #[.int .i64 y.d.x, .int .i64 y.d.y, .int .i64 y.d.z, (.slice bn y.ns.length cn), (.slice bl y.ls.length cl)] 26)
  have hm1 := (hm0.alloc (.cells #[.map (some (w.heap.size + 1 + 1))] 147)).alloc (.cells #[.int .i64 y.d.x, .int .i64 y.d.y, .int .i64 y.d.z, (.slice bn y.ns.length cn), (.slice bl y.ls.length cl)] 26)
  have hB0 : Below w.heap.size w (((((w.alloc (.cells #[.int .i64 y.d.x, .int .i64 y.d.y, .int .i64 y.d.z, (.slice bn y.ns.length cn), (.slice bl y.ls.length cl)] 26)).alloc (.cells #[.func (.func fid) #[] cb] 118)).alloc (.map #[] 0)).alloc (.cells #[.map (some (w.heap.size + 1 + 1))] 147)).alloc (.cells #[.int .i64 y.d.x, .int .i64 y.d.y, .int .i64 y.d.z, (.slice bn y.ns.length cn), (.slice bl y.ls.length cl)] 26)) := by (repeat (first | (with_reducible exact Below.refl _ _) | (with_reducible assumption) | (with_reducible refine below_alloc ?_ _) | (with_reducible refine below_drewN ?_ _) | (with_reducible refine Below.drew ?_) | (with_reducible refine below_then ?_ (by with_reducible assumption)) | (with_reducible refine Below.setCell ?_ (by go_size) _)))
  have hsz : ((((((w.alloc (.cells #[.int .i64 y.d.x, .int .i64 y.d.y, .int .i64 y.d.z, (.slice bn y.ns.length cn), (.slice bl y.ls.length cl)] 26)).alloc (.cells #[.func (.func fid) #[] cb] 118)).alloc (.map #[] 0)).alloc (.cells #[.map (some (w.heap.size + 1 + 1))] 147)).alloc (.cells #[.int .i64 y.d.x, .int .i64 y.d.y, .int .i64 y.d.z, (.slice bn y.ns.length cn), (.slice bl y.ls.length cl)] 26))).heap.size = w.heap.size + 5 := by simp
  obtain ⟨W0, hW0⟩ : ∃ W0, (((((w.alloc (.cells #[.int .i64 y.d.x, .int .i64 y.d.y, .int .i64 y.d.z, (.slice bn y.ns.length cn), (.slice bl y.ls.length cl)] 26)).alloc (.cells #[.func (.func fid) #[] cb] 118)).alloc (.map #[] 0)).alloc (.cells #[.map (some (w.heap.size + 1 + 1))] 147)).alloc (.cells #[.int .i64 y.d.x, .int .i64 y.d.y, .int .i64 y.d.z, (.slice bn y.ns.length cn), (.slice bl y.ls.length cl)] 26)) = W0 := ⟨_, rfl⟩
  rw [hW0] at bF1 bM1 hm1 bY0 hB0 hsz ⊢
  clear hW0 bF0 bM0 hm0
  refine wpIn_rangeFunc_ownH rfl (by omega) (gf := 118) (lb := #[.pointer (some ⟨w.heap.size + 1 + 1 + 1 + 1, 0, none⟩)]) rfl trivial (enters_of Tryz.func118 (by kernel_rfl) rfl)
    (slots_stops Fence.wide _ trivial rfl (by omega) (w.heap.size + 1 + 1 + 1 + 1) (w.heap.size + 1 + 1) y bn bl cn cl w W0 h1 h2 xs hxs hB0 bY0 (by omega)) kpC_t (kpC_b (by omega)) (Below.refl _ _) (fun _ => rfl)
    (fun pre W => ((Boxed W (w.heap.size + 1 + 1 + 1) 147 (.map (some (w.heap.size + 1 + 1))) ∧ Boxed W (w.heap.size + 1) 118 (.func (.func fid) #[] cb)) ∧ W.ownsMap Tryz.prog 3 (plainElem (H := H) Tryz.prog 4) (w.heap.size + 1 + 1) (endsA p pre).length (mapOf (endsA p pre))) ∧ Below w.heap.size w W)
    (fun _ _ _ => False)
    (OwnFrom.and (OwnFrom.and (OwnFrom.and (Own.from (boxed_own _ _ _) _) (Own.from (boxed_own _ _ _) _)) (fun s A B row hs hg hr => hs.kept hg (fun e => by have := (hr _ e.symm).1; omega))) (ownFrom_below (Nat.le_refl _) (by omega)))
    (fun _ _ _ _ _ hs _ _ => hs)
    ⟨⟨⟨bM1, bF1⟩, hm1⟩, hB0⟩
    (fun x a' W => ∃ Bx, w.heap.size + 1 + 1 + 1 < Bx ∧ Blk W Bx 68 #[.int .i64 x.1.f, .int .i64 x.1.t, .int .i64 x.1.o] ∧ a' = { tmps := #[.agg #[.int .i64 y.d.x, .int .i64 y.d.y, .int .i64 y.d.z, (.slice bn y.ns.length cn), (.slice bl y.ls.length cl)], .func (.func fid) #[] cb, .pointer (some ⟨w.heap.size, 0, none⟩), .pointer (some ⟨w.heap.size + 1, 0, none⟩), .slice none 0 0, .pointer (some ⟨w.heap.size + 1 + 1 + 1, 0, none⟩), .pointer (some ⟨Bx, 0, none⟩), .map (some (w.heap.size + 1 + 1)), .agg #[.int .i64 y.d.x, .int .i64 y.d.y, .int .i64 y.d.z, (.slice bn y.ns.length cn), (.slice bl y.ls.length cl)], .func (.func 118) #[] #[.pointer (some ⟨w.heap.size + 1 + 1 + 1 + 1, 0, none⟩)], .agg #[.int .i64 x.1.f, .int .i64 x.1.t, .int .i64 x.1.o], undef, undef, undef, undef, undef, undef, undef, undef, undef, undef], defers := [] })
    (fun x a' _ X Y row hs hg hr => by obtain ⟨Bx, h1, h2, h3⟩ := hs; exact ⟨Bx, h1, blk_own h2 hg hr, h3⟩)
    ?assign ?body ?done ?stop
  case assign =>
    rintro l pre x W K ⟨⟨⟨bM, bF⟩, hm⟩, hB⟩ hK
    dsimp only [encA]
    gi_wp2
    exact hK _ _ ((KeepsOthers.alloc _ _).from _) (kpC_alloc _ hB.size) ⟨⟨⟨bM.alloc _, bF.alloc _⟩, hm.alloc _⟩, hB.alloc hB.size _⟩ ⟨W.heap.size, bM.lt, Blk.new .., rfl⟩
  case body =>
    rintro l pre x a' W hl ⟨r, hr⟩ ⟨⟨⟨bM, bF⟩, hm⟩, hB⟩ ⟨Bx, hBx, bX, rfl⟩ hlt
    have cM := bM.cell
    have cF := bF.cell
    have x0 := bX.cell 0 _ rfl
    have x1 := bX.cell 1 _ rfl
    have x2 := bX.cell 2 _ rfl
    have HS := Lib.hid (hask x.1 W hB)
    have hsW := hB.size
    cases hp : p x.1 with
    | true =>
      rw [hp] at HS
      have hpre : endsA p (pre ++ [x]) = endsA p pre ++ [x.1.t] := by rw [endsA_snoc, hp]; rfl
      gi_wp2
      refine ⟨trivial, ?_⟩
      refine (CallsIn.inRound l (callsIn_wide.2 HS.out)).mono ?_
      rintro e w1 ⟨rfl, hb1⟩
      have bM1 := bx_below bM hb1
      have bF1 := bx_below bF hb1
      have hm1 := map_below hm hb1
      have bX1 := bX.below hb1
      have z1 := hb1.size
      have hk1 := keeps_below hb1
      have hc1 := kpC_below (n₀ := w.heap.size) (B := w.heap.size + 1 + 1) hsW hb1
      have hB1 := hB.trans (hb1.mono hsW)
      have hlen1 := endsA_len p pre
      have hml : (endsA p pre).length + 1 ≤ maxLen := by unfold maxLen; omega
      clear cM cF x0 x1 x2 HS bM bF hm bX hb1 hB hr
      have cM := bM1.cell
      have x1 := bX1.cell 1 _ rfl
      gi_wp2_with (gi_at_mapUpdate; refine wpListIn_mapUpdate_own _ rfl _ _ _ 147 rfl 3 4 (Maps.int_keyed Tryz.underlying3) Tryz.underlying147 _ (w.heap.size + 1 + 1) (endsA p pre).length _ rfl hm1 hml _ _ _ rfl rfl (Maps.keyOf_int_mk Tryz.underlying3 x.2) _ [] (plainElem_bool Tryz.underlying4 true) ?_; intro w2 hown2 hgrow2)
      obtain ⟨es, ck, hh, _⟩ := hm1
      refine ⟨(hk1.from _).trans (KeepsFrom.of_grownBy hgrow2 (fun j e => by cases e; omega)), kpC_t hc1 (kpC_grown (by omega) (by omega) hgrow2), ⟨⟨⟨?_, ?_⟩, ?_⟩, hB1.grown hgrow2 (by omega) (fun k e => by cases e; omega)⟩⟩
      · exact bM1.kept hgrow2 (by simp)
      · exact bF1.kept hgrow2 (by simp)
      · rw [hpre, mapOf_snoc, List.length_append]; exact hown2
    | false =>
      rw [hp] at HS
      have hpre : endsA p (pre ++ [x]) = endsA p pre := by rw [endsA_snoc, hp]; exact List.append_nil _
      gi_wp2
      refine ⟨trivial, ?_⟩
      refine (CallsIn.inRound l (callsIn_wide.2 HS.out)).mono ?_
      rintro e w1 ⟨rfl, hb1⟩
      have bM1 := bx_below bM hb1
      have bF1 := bx_below bF hb1
      have hm1 := map_below hm hb1
      have hk1 := keeps_below hb1
      have hc1 := kpC_below (n₀ := w.heap.size) (B := w.heap.size + 1 + 1) hsW hb1
      have hB1 := hB.trans (hb1.mono hsW)
      clear cM cF x0 x1 x2 HS bM bF hm bX hb1 hB hr
      gi_wp2
      exact ⟨hk1.from _, hc1, ⟨⟨⟨bM1, bF1⟩, by rw [hpre]; exact hm1⟩, hB1⟩⟩
  case done =>
    rintro D ys W hD rfl ⟨⟨⟨bM, bF⟩, hm⟩, hB⟩ hK
    have cM := bM.cell
    have hx2 : endsA p ys = endsL p y.all := by unfold endsA; rw [hxs]
    have K := Maps.int_keyed (P := Tryz.prog) Tryz.underlying3
    have hsz2 := size_of_keys hm K Tryz.underlying3
    have hel := endsA_len p ys
    have hmax : Maps.size (mapOf (H := H) (endsA p ys)) ≤ maxLen := by unfold maxLen; omega
    have hbytes : Maps.size (mapOf (H := H) (endsA p ys)) * 8 ≤ 140737488355328 := by omega
    have hseq : SeqGives Fence.wide (11 - 1 - 1 - 1) Tryz.prog 120 #[.pointer (some ⟨W.heap.size, 0, none⟩)] encZ (fun ss => ss.Perm (intKeys (mapOf (H := H) (endsA p ys)))) (Maps.size (mapOf (H := H) (endsA p ys))) (W.alloc (.cells #[.map (some (w.heap.size + 1 + 1))] 147)) :=
      AnyZI.keys_gives (ρ := Tryz.keysA_ren) { Tryz.keysA with } Fence.wide _ trivial rfl (by omega) W.heap.size (w.heap.size + 1 + 1) (endsA p ys).length _ _ (by simp) (by simp) (hm.alloc _)
    have cK : ∀ mb W, CallsIn Fence.wide 11 Tryz.prog 103 #[.map mb] W fun e w' => e = .returned (.func (.func 120) #[] #[.pointer (some ⟨W.heap.size, 0, none⟩)]) ∧ w' = W.alloc (.cells #[.map mb] 147) := fun mb W => AnyZI.keys_in Tryz.keysA Fence.wide 11 trivial rfl mb W
    have cS := AnyZI.sorted_in Tryz.sortedA Fence.wide 11 trivial trivial trivial trivial rfl (by omega) (when_sorts _) (enters_of Tryz.func112 (by kernel_rfl) rfl) 120 #[.pointer (some ⟨W.heap.size, 0, none⟩)] trivial (enters_of Tryz.func120 (by kernel_rfl) rfl) _ _ hmax hbytes _ hseq
    change CallsIn _ _ Tryz.prog 102 _ _ _ at cS
    have CS := Lib.hid cS
    have hDW := (Array.getElem?_eq_some_iff.1 hK).1
    clear cS hseq
    gi_wp2_with (refine ⟨trivial, ?_⟩; first
      | (gi_at_call 103; refine (cK _ _).mono ?_; rintro e w' ⟨rfl, rfl⟩)
      | (gi_at_call 102; refine CS.out.mono ?_; rintro e w' ⟨v, ss, rfl, hS, hrow, hnil, hb⟩))
    have hsort := sort_of_keys hm K Tryz.underlying3 hS
    rw [hx2] at hsort
    rw [hsort] at hrow
    have hln : ss.length = (pmsL [] (endsL p y.all)).length := by rw [← hsort, List.length_mergeSort]
    rw [hln] at hrow
    have hK2 : w'.heap[D]? = some (.deferred (some [])) := (hb.block D (by simp; omega)).trans ((Below.heap_alloc _ _ _ hDW).trans hK)
    have hBw : Below w.heap.size w w' := (hB.alloc hB.size _).trans (hb.mono (by simp; have := hB.size; omega))
    refine ⟨by simp, .inl ⟨_, _, rfl, run_takeDeferred hK2, ?_⟩⟩
    refine ⟨_, results_tmp rfl _ _ _, v, rfl, ?_, hBw.trans (belowK_b (w := w) (Nat.le_refl _) w' D _ _ (by omega) hK2 rfl rfl)⟩
    exact ownsRow_putObj (ownsRow_base_a hrow (by simp; have := hB.size; omega)) _ hK2 rfl
  case stop =>
    rintro D c pre W _ _ h _
    exact h.elim
end

section
open Go.RowKit Go.Shelf Go.Maps
attribute [local go_sem] Oper.semAt_some

theorem subs_of : ∀ {l : List Sl}, (∀ s ∈ l, (Lit.int .i64 s.t).wf = true) → ∃ xs : List SlA, xs.map Subtype.val = l
  | [], _ => ⟨[], rfl⟩
  | s :: l, h => by
    obtain ⟨xs, hx⟩ := subs_of (l := l) (fun x hx => h x (List.mem_cons_of_mem _ hx))
    exact ⟨⟨s, h s (List.mem_cons_self ..)⟩ :: xs, by rw [List.map_cons, hx]⟩
theorem Yd.all_may {y : Yd} (h : y.okB = true) : ∀ s ∈ y.all, s.may := by
  have hA := Yd.ok_all h
  intro s hs
  unfold Yd.all at hs
  rcases List.mem_append.1 hs with hs | hs
  · obtain ⟨c, hc, hsc⟩ := List.mem_flatten.1 hs
    exact (chain0_iff.1 (calE_ok (hA.1 c hc)).1).1 s hsc
  · obtain ⟨c, hc, hsc⟩ := List.mem_flatten.1 hs
    exact (chain0_iff.1 (calE_ok (hA.2 c hc)).1).1 s hsc
theorem Yd.subs {y : Yd} (h : y.okB = true) : ∃ xs : List SlA, xs.map Subtype.val = y.all :=
  subs_of (fun s hs => by
    have h1 := (Yd.all_may h s hs).1
    unfold spMay at h1
    have e1 : IntKind.i64.min = -9223372036854775808 := by decide
    have e2 : IntKind.i64.max = 9223372036854775807 := by decide
    simp [Lit.wf, e1, e2]
    omega)
theorem ys_Check {W : World} {v : Value} {y : Yd} (h : YS W v y) : Calls Tryz.prog 38 #[v] W (RB W (.int .i64 y.chk)) := by
  obtain ⟨bn, bl, cn, cl, rfl, h1, h2⟩ := h.ex
  exact cals_Check y.d bn bl cn cl y.ns y.ls W h1 h2
set_option maxRecDepth 100000 in set_option maxHeartbeats 4000000 in
theorem times1 (B : Nat) (f : Int) (s : Sl) (w : World) (hb : Blk w B 3 #[.int .i64 f]) : Calls Tryz.prog 75 #[.agg #[.int .i64 s.f, .int .i64 s.t, .int .i64 s.o], .pointer (some ⟨B, 0, none⟩)] w (RB w (.bool (afterB f s))) := by
  have b0 := hb.cell 0 _ rfl
  have hB := hb.lt
  have HE := Lib.hid (show afterB f s = (decide (f < s.t) && decide (s.t < 1099511627776)) from rfl)
  clear hb
  by_cases h1 : f < s.t
  · have q1 : decide (f < s.t) = true := decide_eq_true h1
    rw [q1] at HE
    go_enter Tryz.func75, Tryz.ntmps75
    go_wp2_with (refine wp_region_quiet_lit (by kernel_rfl) (by kernel_rfl) ?_; (repeat (any_goals (first | go_big_quiet_step (fail) | quiet_step (fail) | (refine wpQuiet_step (fun K hK => ?_); go_simp; split <;> (refine hK _ ?_; clear hK K))))); all_goals (refine wpQuiet_nil ?_; intro _ hw'; obtain ⟨nq, hw''⟩ := hw'; subst hw''))
    all_goals
      go_returns
      exact ⟨by rw [HE.out]; simp, by (repeat (first | (with_reducible exact Below.refl _ _) | (with_reducible assumption) | (with_reducible refine below_alloc ?_ _) | (with_reducible refine below_drewN ?_ _) | (with_reducible refine Below.drew ?_) | (with_reducible refine below_then ?_ (by with_reducible assumption)) | (with_reducible refine Below.setCell ?_ (by go_size) _)))⟩
  · have q1 : decide (f < s.t) = false := decide_eq_false h1
    rw [q1] at HE
    go_enter Tryz.func75, Tryz.ntmps75
    go_wp2_with (refine wp_region_quiet_lit (by kernel_rfl) (by kernel_rfl) ?_; (repeat (any_goals (first | go_big_quiet_step (fail) | quiet_step (fail) | (refine wpQuiet_step (fun K hK => ?_); go_simp; split <;> (refine hK _ ?_; clear hK K))))); all_goals (refine wpQuiet_nil ?_; intro _ hw'; obtain ⟨nq, hw''⟩ := hw'; subst hw''))
    all_goals
      go_returns
      exact ⟨by rw [HE.out]; simp, by (repeat (first | (with_reducible exact Below.refl _ _) | (with_reducible assumption) | (with_reducible refine below_alloc ?_ _) | (with_reducible refine below_drewN ?_ _) | (with_reducible refine Below.drew ?_) | (with_reducible refine below_then ?_ (by with_reducible assumption)) | (with_reducible refine Below.setCell ?_ (by go_size) _)))⟩
/-- A new list of moments, and an error. -/
def RNE (w : World) (l : List Int) (x : Int) : Ending → World → Prop := fun e w' => ∃ v, e = .returned (.tuple #[v, .int .i64 x]) ∧ w'.ownsRow w.heap.size 3 1 v l.length (wi l) ∧ Below w.heap.size w w'
theorem RNE.me {w : World} {l : List Int} {x : Int} {e : Ending} {w' : World} (h : RNE w l x e w') : RME w l x e w' := by
  obtain ⟨v, h1, h2, h3⟩ := h
  exact ⟨v, h1, mi_of_own h2, h3⟩
theorem chk_eq (y : Yd) : y.chk = okIf (y.okB = true) 8 := by
  unfold Yd.chk okIf
  cases y.okB <;> rfl
end

section
open Go.RowKit Go.Shelf Go.Maps

theorem own_nil {W : World} {B : Nat} {e : TypeId} {sz : Nat} {ba : Option Addr} {n ca : Nat} {xs : List Value} (h : W.ownsRow B e sz (.slice ba n ca) n xs) (hn : ba = none) : n = 0 ∧ ca = 0 := by
  rcases h.2 with ⟨e1, h2⟩ | ⟨g, cap, cur, e1, _⟩
  · cases e1; exact ⟨rfl, rfl⟩
  · cases e1; cases hn
theorem mi_cons {W : World} {B : Nat} {xr : Option Addr} {yr : Nat} {f : Int} {l : List Int} (h : W.ownsRow B 3 1 (.slice xr (1 + l.length) yr) (1 + l.length) ([.int .i64 f] ++ wi l)) : MIn W (.slice xr (1 + l.length) yr) (f :: l) := by
  obtain ⟨b, c, e, rd, _⟩ := own_rd h
  cases e
  exact ⟨xr, yr, by rw [List.length_cons, Nat.add_comm], rd⟩
theorem pms_cons {l : List Int} {f : Int} (hf : ∀ x ∈ l, f < x) : f :: pmsL [] l = pmsL [f] l := by
  refine rise_eq ?_ (pmsL_rise (by simp)) (fun x => by rw [List.mem_cons, mem_pmsL, mem_pmsL]; simp)
  rw [List.pairwise_cons]
  exact ⟨fun x hx => hf x (by rw [mem_pmsL] at hx; simpa using hx), pmsL_rise .nil⟩
theorem ends_after {f : Int} {c : List Sl} : ∀ x ∈ endsL (afterB f) c, f < x := by
  intro x hx
  unfold endsL at hx
  obtain ⟨s, hs, rfl⟩ := List.mem_map.1 hx
  have := (List.mem_filter.1 hs).2
  unfold afterB at this
  simp at this
  exact this.1
theorem own_lit1 (W : World) (L : Nat) (x : Value) (h : L ≤ W.heap.size) : (W.alloc (.cells #[x] 3)).ownsRow L 3 1 (.slice (some ⟨W.heap.size, 0, none⟩) 1 1) 1 [x] :=
  ⟨by simp, .inr ⟨W.heap.size, 1, #[x], rfl, h, World.alloc_heap_new W _, Nat.le_refl _, by decide, by simp, by simp⟩⟩
set_option maxRecDepth 100000 in set_option maxHeartbeats 4000000 in
theorem when_Times (f : Int) (v : Value) (y : Yd) (w : World) (h : YS w v y) : Calls Tryz.prog 39 #[v, .int .i64 f] w (RME w (timesV y f) (timesE y f)) := by
  obtain ⟨bn, bl, cn, cl, rfl, h1, h2⟩ := h.ex
  have HV := Lib.hid (show timesV y f = if timesE y f = 0 then pmsL [f] (endsL (afterB f) y.all) else [] from rfl)
  have HE := Lib.hid (show timesE y f = if y.okB then (if 0 ≤ f ∧ f < 1099511627776 then 0 else 2) else 8 from rfl)
  have HC := Lib.hid (fun W (hb : Below w.heap.size w W) => ys_Check (h.keep hb))
  have HX := Lib.hid (chk_eq y)
  cases hok : y.okB with
  | false =>
    rw [hok] at HE HX
    have E0 := Lib.hid (show y.chk = 8 from HX.out.trans (okIf_no (by decide)))
    have E1 := Lib.hid (show timesE y f = 8 from HE.out.trans (if_neg (by decide)))
    have E2 := Lib.hid (show timesV y f = [] by rw [HV.out, E1.out]; exact if_neg (by decide))
    rw [E0.out] at HC
    clear h h1 h2 HV HX HE hok
    go_enter Tryz.func39, Tryz.ntmps39
    go_wp2_with ((with_reducible refine (HC.out _ (by (repeat (first | (with_reducible exact Below.refl _ _) | (with_reducible assumption) | (with_reducible refine below_alloc ?_ _) | (with_reducible refine below_drewN ?_ _) | (with_reducible refine Below.drew ?_) | (with_reducible refine below_then ?_ (by with_reducible assumption)) | (with_reducible refine Below.setCell ?_ (by go_size) _))))).mono ?_); rintro e w1 ⟨rfl, hb1⟩; (obtain ⟨hc1, hf1⟩ := bcell hb1; have hz1 := hb1.size; (try simp at hz1); have hB : Below w.heap.size w w1 := (by (repeat (first | (with_reducible exact Below.refl _ _) | (with_reducible assumption) | (with_reducible refine below_alloc ?_ _) | (with_reducible refine below_drewN ?_ _) | (with_reducible refine Below.drew ?_) | (with_reducible refine below_then ?_ (by with_reducible assumption)) | (with_reducible refine Below.setCell ?_ (by go_size) _)))); obtain ⟨hcB, hfB⟩ := bcell hB; (try have z0 : w.heap.size < w1.heap.size := by omega); (try have z1 : w.heap.size + 1 < w1.heap.size := by omega); (try have z2 : w.heap.size + 2 < w1.heap.size := by omega); (try have z3 : w.heap.size + 3 < w1.heap.size := by omega)))
    go_returns
    exact ⟨_, by rw [E1.out]; rfl, by rw [E2.out]; exact mi_nil _, by (repeat (first | (with_reducible exact Below.refl _ _) | (with_reducible assumption) | (with_reducible refine below_alloc ?_ _) | (with_reducible refine below_drewN ?_ _) | (with_reducible refine Below.drew ?_) | (with_reducible refine below_then ?_ (by with_reducible assumption)) | (with_reducible refine Below.setCell ?_ (by go_size) _)))⟩
  | true =>
    rw [hok] at HE HX
    have E0 := Lib.hid (show y.chk = 0 from HX.out.trans (okIf_yes rfl))
    rw [E0.out] at HC
    by_cases hf : 0 ≤ f ∧ f < 1099511627776
    · have E1 := Lib.hid (show timesE y f = 0 by rw [HE.out, if_pos rfl, if_pos hf])
      have E2 := Lib.hid (show timesV y f = pmsL [f] (endsL (afterB f) y.all) by rw [HV.out, E1.out]; exact if_pos rfl)
      obtain ⟨f0, f1⟩ := hf
      obtain ⟨xs, hxs⟩ := Yd.subs hok
      have hal := h.all_len
      have HN := Lib.hid (fun W (hb : Below w.heap.size w W) (B : Nat) (hB : Blk W B 3 #[.int .i64 f]) => when_ends (H := Unit) (afterB f) 75 #[.pointer (some ⟨B, 0, none⟩)] y bn bl cn cl W (h1.keep hb) (h2.keep hb) hal xs hxs (enters_of Tryz.func75 (by kernel_rfl) rfl) (fun s W' hb' => times1 B f s W' (hB.below hb')))
      clear h h1 h2 HV HX HE hok hxs
      go_enter Tryz.func39, Tryz.ntmps39
      go_upto_region 6 with (first | ((with_reducible refine (HC.out _ (by (repeat (first | (with_reducible exact Below.refl _ _) | (with_reducible assumption) | (with_reducible refine below_alloc ?_ _) | (with_reducible refine below_drewN ?_ _) | (with_reducible refine Below.drew ?_) | (with_reducible refine below_then ?_ (by with_reducible assumption)) | (with_reducible refine Below.setCell ?_ (by go_size) _))))).mono ?_); rintro e w1 ⟨rfl, hb1⟩; (obtain ⟨hc1, hf1⟩ := bcell hb1; have hz1 := hb1.size; (try simp at hz1); have hB : Below w.heap.size w w1 := (by (repeat (first | (with_reducible exact Below.refl _ _) | (with_reducible assumption) | (with_reducible refine below_alloc ?_ _) | (with_reducible refine below_drewN ?_ _) | (with_reducible refine Below.drew ?_) | (with_reducible refine below_then ?_ (by with_reducible assumption)) | (with_reducible refine Below.setCell ?_ (by go_size) _)))); obtain ⟨hcB, hfB⟩ := bcell hB; (try have z0 : w.heap.size < w1.heap.size := by omega); (try have z1 : w.heap.size + 1 < w1.heap.size := by omega); (try have z2 : w.heap.size + 2 < w1.heap.size := by omega); (try have z3 : w.heap.size + 3 < w1.heap.size := by omega))) | (refine wp_region_quiet_lit (by kernel_rfl) (by kernel_rfl) ?_; (repeat (any_goals (first | go_big_quiet_step (fail) | quiet_step (fail) | (refine wpQuiet_step (fun K hK => ?_); go_simp; split <;> (refine hK _ ?_; clear hK K))))); all_goals (refine wpQuiet_nil ?_; intro _ hw'; obtain ⟨nq, hw''⟩ := hw'; subst hw'')))
      have BF := Lib.hid (show Blk w1 (w.heap.size + 1) 3 #[.int .i64 f] by have hh := (Blk.new (w.alloc (.cells #[.int .i64 y.d.x, .int .i64 y.d.y, .int .i64 y.d.z, (.slice bn y.ns.length cn), (.slice bl y.ls.length cl)] 26)) 3 #[.int .i64 f]).below hb1; rwa [World.size_alloc] at hh)
      have BY := Lib.hid (show Blk w1 w.heap.size 26 #[.int .i64 y.d.x, .int .i64 y.d.y, .int .i64 y.d.z, (.slice bn y.ns.length cn), (.slice bl y.ls.length cl)] from ((Blk.new w 26 #[.int .i64 y.d.x, .int .i64 y.d.y, .int .i64 y.d.z, (.slice bn y.ns.length cn), (.slice bl y.ls.length cl)]).alloc (.cells #[.int .i64 f] 3)).below hb1)
      have HB := Lib.hid hB
      clear hb1 hc1 hf1 hz1 hB hcB hfB z0 z1 HC
      have y0 := BY.out.cell 0 _ rfl
      have y1 := BY.out.cell 1 _ rfl
      have y2 := BY.out.cell 2 _ rfl
      have y3 := BY.out.cell 3 _ rfl
      have y4 := BY.out.cell 4 _ rfl
      have b0 := BF.out.cell 0 _ rfl
      have bl1 := BY.out.lt
      have bl2 := BF.out.lt
      have hs0 := HB.out.size
      have mixed : Tryz.prog.follows .mixedOrders = true := by kernel_rfl
      obtain ⟨i0, hi, iz0, iz1, iz2⟩ := info_parts infoInt
      have hlen : (pmsL [] (endsL (afterB f) y.all)).length ≤ 20000000 := by
        have h1 := pmsL_len (endsL (afterB f) y.all) []
        have h2 := endsL_len (afterB f) y.all
        simp at h1
        omega
      rw [← pms_cons ends_after] at E2
      generalize pmsL [] (endsL (afterB f) y.all) = l at *
      go_region_law (first
        | (refine step_addE _ rfl _ _ 83 rfl 3 i0 (.int .i64 0) 1 8 Tryz.underlying83 hi iz0 iz1 iz2 rfl (by decide) (by decide) w1.heap.size (by first | exact HBa.size | (simp; have hh := HBa.size; omega)) _ (by rfl) 1 [.int .i64 f] (by first | (refine own_keep ?_ hba; exact own_lit1 w1 _ _ (Nat.le_refl _)) | exact own_lit1 wa _ _ HBa.size) ba l.length ca (wi l) (by rfl) (by simp [wi]) (fun hh => own_nil HOA.out hh) (by first | exact HRD.out | exact HRD.out.keep (by (repeat (first | (with_reducible exact Below.refl _ _) | (with_reducible assumption) | (with_reducible refine below_alloc ?_ _) | (with_reducible refine below_drewN ?_ _) | (with_reducible refine Below.drew ?_) | (with_reducible refine below_then ?_ (by with_reducible assumption)) | (with_reducible refine Below.setCell ?_ (by go_size) _))))) (by simp [wi, Value.oneCell']) (by omega) ?_; intro vr wr hor hbr; obtain ⟨xr, yr, rfl, _⟩ := own_rd hor)
        | (go_simp; go_at_call 74; (with_reducible refine (HN.out _ (below_then HB.out (by (repeat (first | (with_reducible exact Below.refl _ _) | (with_reducible assumption) | (with_reducible refine below_alloc ?_ _) | (with_reducible refine below_drewN ?_ _) | (with_reducible refine Below.drew ?_) | (with_reducible refine below_then ?_ (by with_reducible assumption)) | (with_reducible refine Below.setCell ?_ (by go_size) _))))) _ (BF.out.below (by (repeat (first | (with_reducible exact Below.refl _ _) | (with_reducible assumption) | (with_reducible refine below_alloc ?_ _) | (with_reducible refine below_drewN ?_ _) | (with_reducible refine Below.drew ?_) | (with_reducible refine below_then ?_ (by with_reducible assumption)) | (with_reducible refine Below.setCell ?_ (by go_size) _)))))).mono ?_); rintro e wa ⟨va, rfl, hoa, hba⟩; have HBa := below_then (show Below w1.heap.size w1 _ by (repeat (first | (with_reducible exact Below.refl _ _) | (with_reducible assumption) | (with_reducible refine below_alloc ?_ _) | (with_reducible refine below_drewN ?_ _) | (with_reducible refine Below.drew ?_) | (with_reducible refine below_then ?_ (by with_reducible assumption)) | (with_reducible refine Below.setCell ?_ (by go_size) _)))) hba; have HOA := Lib.hid hoa; obtain ⟨ba, ca, rfl, hrd, hcn⟩ := own_rd hoa; have HRD := Lib.hid hrd; have pb0 := (BF.out.below HBa).cell 0 _ rfl; clear hoa hrd))
      all_goals
        go_wp2_with fail
        go_returns
        exact ⟨_, by rw [E1.out]; rfl, by rw [E2.out]; exact mi_cons hor, below_then HB.out (by first | exact HBa.trans hbr | exact (HBa.alloc HBa.size _).trans hbr)⟩
    · have E1 := Lib.hid (show timesE y f = 2 by rw [HE.out, if_pos rfl, if_neg hf])
      have E2 := Lib.hid (show timesV y f = [] by rw [HV.out, E1.out]; exact if_neg (by decide))
      clear h h1 h2 HV HX HE hok
      rcases Int.lt_or_le f 0 with f0 | f0
      · clear hf
        go_enter Tryz.func39, Tryz.ntmps39
        go_wp2_with (first | ((with_reducible refine (HC.out _ (by (repeat (first | (with_reducible exact Below.refl _ _) | (with_reducible assumption) | (with_reducible refine below_alloc ?_ _) | (with_reducible refine below_drewN ?_ _) | (with_reducible refine Below.drew ?_) | (with_reducible refine below_then ?_ (by with_reducible assumption)) | (with_reducible refine Below.setCell ?_ (by go_size) _))))).mono ?_); rintro e w1 ⟨rfl, hb1⟩; (obtain ⟨hc1, hf1⟩ := bcell hb1; have hz1 := hb1.size; (try simp at hz1); have hB : Below w.heap.size w w1 := (by (repeat (first | (with_reducible exact Below.refl _ _) | (with_reducible assumption) | (with_reducible refine below_alloc ?_ _) | (with_reducible refine below_drewN ?_ _) | (with_reducible refine Below.drew ?_) | (with_reducible refine below_then ?_ (by with_reducible assumption)) | (with_reducible refine Below.setCell ?_ (by go_size) _)))); obtain ⟨hcB, hfB⟩ := bcell hB; (try have z0 : w.heap.size < w1.heap.size := by omega); (try have z1 : w.heap.size + 1 < w1.heap.size := by omega); (try have z2 : w.heap.size + 2 < w1.heap.size := by omega); (try have z3 : w.heap.size + 3 < w1.heap.size := by omega))) | (refine wp_region_quiet_lit (by kernel_rfl) (by kernel_rfl) ?_; (repeat (any_goals (first | go_big_quiet_step (fail) | quiet_step (fail) | (refine wpQuiet_step (fun K hK => ?_); go_simp; split <;> (refine hK _ ?_; clear hK K))))); all_goals (refine wpQuiet_nil ?_; intro _ hw'; obtain ⟨nq, hw''⟩ := hw'; subst hw'')))
        all_goals
          go_returns
          exact ⟨_, by rw [E1.out]; rfl, by rw [E2.out]; exact mi_nil _, by (repeat (first | (with_reducible exact Below.refl _ _) | (with_reducible assumption) | (with_reducible refine below_alloc ?_ _) | (with_reducible refine below_drewN ?_ _) | (with_reducible refine Below.drew ?_) | (with_reducible refine below_then ?_ (by with_reducible assumption)) | (with_reducible refine Below.setCell ?_ (by go_size) _)))⟩
      · have f1 : 1099511627776 ≤ f := by omega
        clear hf
        go_enter Tryz.func39, Tryz.ntmps39
        go_wp2_with (first | ((with_reducible refine (HC.out _ (by (repeat (first | (with_reducible exact Below.refl _ _) | (with_reducible assumption) | (with_reducible refine below_alloc ?_ _) | (with_reducible refine below_drewN ?_ _) | (with_reducible refine Below.drew ?_) | (with_reducible refine below_then ?_ (by with_reducible assumption)) | (with_reducible refine Below.setCell ?_ (by go_size) _))))).mono ?_); rintro e w1 ⟨rfl, hb1⟩; (obtain ⟨hc1, hf1⟩ := bcell hb1; have hz1 := hb1.size; (try simp at hz1); have hB : Below w.heap.size w w1 := (by (repeat (first | (with_reducible exact Below.refl _ _) | (with_reducible assumption) | (with_reducible refine below_alloc ?_ _) | (with_reducible refine below_drewN ?_ _) | (with_reducible refine Below.drew ?_) | (with_reducible refine below_then ?_ (by with_reducible assumption)) | (with_reducible refine Below.setCell ?_ (by go_size) _)))); obtain ⟨hcB, hfB⟩ := bcell hB; (try have z0 : w.heap.size < w1.heap.size := by omega); (try have z1 : w.heap.size + 1 < w1.heap.size := by omega); (try have z2 : w.heap.size + 2 < w1.heap.size := by omega); (try have z3 : w.heap.size + 3 < w1.heap.size := by omega))) | (refine wp_region_quiet_lit (by kernel_rfl) (by kernel_rfl) ?_; (repeat (any_goals (first | go_big_quiet_step (fail) | quiet_step (fail) | (refine wpQuiet_step (fun K hK => ?_); go_simp; split <;> (refine hK _ ?_; clear hK K))))); all_goals (refine wpQuiet_nil ?_; intro _ hw'; obtain ⟨nq, hw''⟩ := hw'; subst hw'')))
        all_goals
          go_returns
          exact ⟨_, by rw [E1.out]; rfl, by rw [E2.out]; exact mi_nil _, by (repeat (first | (with_reducible exact Below.refl _ _) | (with_reducible assumption) | (with_reducible refine below_alloc ?_ _) | (with_reducible refine below_drewN ?_ _) | (with_reducible refine Below.drew ?_) | (with_reducible refine below_then ?_ (by with_reducible assumption)) | (with_reducible refine Below.setCell ?_ (by go_size) _)))⟩
section
attribute [local go_sem] Oper.semAt_some
theorem kpC_set {n₀ B k : Nat} {W : World} (v : Value) (h : n₀ ≤ B) : KpC n₀ B W (W.setCell ⟨B, k, none⟩ v) :=
  ⟨(Below.refl n₀ W).setCell (p := ⟨B, k, none⟩) h v, fun b o hb ho _ => (Below.heap_setCell W ⟨B, k, none⟩ v b hb).trans ho⟩
end
end
end
end Go.Proofs.YtofoenlhbmammaaGreat
