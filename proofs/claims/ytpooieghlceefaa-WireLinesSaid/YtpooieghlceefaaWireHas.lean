/- WIRES: whether a list has a number; an axis as it comes. -/
import Derived.Test.YtpooieghlceefaaIntsOwn
namespace Go.Proofs.Ytpooieghlceefaa
open Go.ChangeShapes Go.WideShapes Go.ChangeAt Go.RowKit Go.Shelf

theorem not_mem_take_succ {l : List Int} {n : Int} {k : Nat} (hk : k < l.length) (h : ¬ n ∈ l.take k) (hx : ¬ l[k] = n) : ¬ n ∈ l.take (k + 1) := by
  rw [List.take_succ_eq_append_getElem hk]
  simp only [List.mem_append, List.mem_singleton, not_or]
  exact ⟨h, fun e => hx e.symm⟩
set_option maxRecDepth 100000 in set_option maxHeartbeats 4000000 in
theorem law05_has (base : Option Addr) (cap : Nat) (l : List Int) (n : Int) (w : World) (h : LIn w base l) : Calls Try.prog 18 #[.slice base l.length cap, .int .i64 n] w (RB w (.bool (decide (n ∈ l)))) := by
  have H := Lib.hid h
  have hlen := h.len
  clear h
  go_enter Try.func18, Try.ntmps18
  go_wp2_with fail
  go_loopw [5] (fun v wr => ∃ k : Nat, k ≤ l.length ∧ v = .int .i64 k ∧ ¬ n ∈ l.take k ∧ wr = w) (fun v _ => l.length - (intOf v).toNat)
  case atStart => exact ⟨0, Nat.zero_le _, rfl, by simp, rfl⟩
  case round =>
    obtain ⟨k, hk, rfl, hn, hw⟩ := hrel
    subst hw
    have HN := Lib.hid hn
    clear hn
    by_cases hlt : k < l.length
    · obtain ⟨bA, oA, rfl, hca⟩ := H.out.rd k _ (getElem?_map_int hlt)
      by_cases hx : l[k] = n
      · have HE := Lib.hid (show decide (n ∈ l) = true from decide_eq_true (by rw [← hx]; exact List.getElem_mem hlt))
        have e2 : (l[k] == n) = true := by simpa using hx
        clear hx
        go_wp2_with fail
        go_returns
        exact ⟨by rw [HE.out]; rfl, by (repeat (first | (with_reducible exact Below.refl _ _) | (with_reducible assumption) | (with_reducible refine below_alloc ?_ _) | (with_reducible refine below_drewN ?_ _) | (with_reducible refine Below.drew ?_) | (with_reducible refine below_then ?_ (by with_reducible assumption)) | (with_reducible refine Below.setCell ?_ (by go_size) _)))⟩
      · have HN := Lib.hid (not_mem_take_succ hlt HN.out hx)
        have e2 : (l[k] == n) = false := by simpa using hx
        clear hx
        go_wp2_with fail
        go_roundw
        case rel => exact ⟨k + 1, by omega, by go_num, HN.out, by trivial⟩
        case measure => (simp [intOf] <;> omega)
    · obtain rfl : k = l.length := by omega
      have HE := Lib.hid (show decide (n ∈ l) = false from decide_eq_false (by have := HN.out; rwa [List.take_length] at this))
      go_wp2_with fail
      go_returns
      exact ⟨by rw [HE.out]; rfl, by (repeat (first | (with_reducible exact Below.refl _ _) | (with_reducible assumption) | (with_reducible refine below_alloc ?_ _) | (with_reducible refine below_drewN ?_ _) | (with_reducible refine Below.drew ?_) | (with_reducible refine below_then ?_ (by with_reducible assumption)) | (with_reducible refine Below.setCell ?_ (by go_size) _)))⟩
theorem s_has {w : World} {v : Value} {l : List Int} (n : Int) (h : LS w v l) : Calls Try.prog 18 #[v, .int .i64 n] w (RB w (.bool (decide (n ∈ l)))) := by
  obtain ⟨base, cap, rfl, h1⟩ := h.ex
  exact law05_has base cap l n w h1
theorem LS.addr {W : World} {base : Option Addr} {c : Nat} {l : List Int} {k : Nat} {x : Int} (h : LS W (.slice base l.length c) l) (hx : l[k]? = some x) : ∃ g o, base = some ⟨g, o, none⟩ := by
  obtain ⟨b, c', e, h1⟩ := h.ex
  cases e
  obtain ⟨g, o, e, _⟩ := h1.rd k (.int .i64 x) (by simp [hx])
  exact ⟨g, o, e⟩
theorem LS.cell {W : World} {g o c : Nat} {l : List Int} {k : Nat} {x : Int} (h : LS W (.slice (some ⟨g, o, none⟩) l.length c) l) (hx : l[k]? = some x) : W.cell? ⟨g, o + k, none⟩ = some (.int .i64 x) := by
  obtain ⟨b, c', e, h1⟩ := h.ex
  cases e
  obtain ⟨g', o', e, h2⟩ := h1.rd k (.int .i64 x) (by simp [hx])
  cases e
  exact h2
set_option maxRecDepth 100000 in set_option maxHeartbeats 4000000 in
theorem okWide_u8 {W : World} {base : Nat} {t : TypeId} {v : Value} (ht : Try.prog.underlying t = some (.int .u8)) (h : Value.okWide Try.prog W .any base t v) : ∃ n, v = .int .u8 n ∧ 0 ≤ n ∧ n ≤ 255 := by
  simp only [Value.okWide, ht, Cell.okWide] at h
  cases v <;> simp_all [Cell.ok]
  obtain ⟨rfl, hh⟩ := h
  revert hh
  simp only [IntKind.has, show IntKind.u8.min = 0 from rfl, show IntKind.u8.max = 255 from rfl] <;> (try simp) <;> (try omega)
end Go.Proofs.Ytpooieghlceefaa
