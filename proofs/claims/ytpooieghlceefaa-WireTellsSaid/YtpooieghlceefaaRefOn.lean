/- REF: some steps on. -/
import Derived.Test.YtpooieghlceefaaRefOn0
import Derived.Test.YtpooieghlceefaaRefOn1
import Derived.Test.YtpooieghlceefaaRefOn2
namespace Go.Proofs.Ytpooieghlceefaa
open Go.RowKit Go.Shelf
theorem ref01_On (d : V3) (m : Int) (k : Nat) (b : Int) (w : World) (hd : d.may) (h0 : 0 ≤ m) (h1 : m < d.n) (hk : k < 3) (hb : 0 ≤ b) (hb9 : b ≤ 1000) :
    Calls Try.prog 44 #[.agg #[.int .i64 d.x, .int .i64 d.y, .int .i64 d.z], .int .i64 m, .int .i64 k, .int .i64 b] w (RB w (.int .i64 (d.step m k b))) := by
  have hn := V3.n_le hd
  have HO := Lib.hid (fun W => ref01_Where d m W hd h0 (by omega))
  have HA := fun W => ref01_Number d (d.stepped m k b) W hd (V3.stepped_inside hd h0 h1 hk b)
  obtain ⟨px, py, pz⟩ := V3.pos_inside hd h0 h1
  obtain ⟨hx, hy, hz⟩ := hd
  match k, hk with
  | 0, _ => exact ref01_On0 d (d.pos m) m b _ w hx px hb hb9 HO (Lib.hid HA)
  | 1, _ => exact ref01_On1 d (d.pos m) m b _ w hy py hb hb9 HO (Lib.hid HA)
  | 2, _ => exact ref01_On2 d (d.pos m) m b _ w hz pz hb hb9 HO (Lib.hid HA)
end Go.Proofs.Ytpooieghlceefaa
