/- Library functions that the program calls. -/
import Derived.Test.YtobmnnihmbdfjaaGreatNum
import Derived.Test.YtobmnnihmbdfjaaGreatShelf
set_option linter.all false
namespace Go.Proofs.YtobmnnihmbdfjaaGreat
open Go.RowKit

def zeros (n : Nat) : List UInt8 := List.replicate n 0

theorem repeatL_one (b : UInt8) : ∀ n, Lib.repeatL [b] n = List.replicate n b
  | 0 => rfl
  | n + 1 => by rw [Lib.repeatL, repeatL_one b n, List.replicate_succ]; rfl

theorem repeat_byte (b : UInt8) (n : Int) (h0 : 0 ≤ n) (h1 : n ≤ 4096) (w : World) :
    Calls Tryz.prog 47 #[.string { data := #[b] }, .int .i64 n] w fun e w' => e = .returned (vs (List.replicate n.toNat b)) ∧ Below w.heap.size w w' := by
  obtain ⟨c, rfl⟩ := Int.eq_ofNat_of_zero_le h0
  have hs : ({ data := #[b] } : ByteArray).size = 1 := rfl
  refine (Tryz.strings_Repeat { data := #[b] } c w (by omega) (by rw [hs]; omega)).mono ?_
  rintro e w' ⟨rfl, hb⟩
  refine ⟨?_, hb⟩
  show Ending.returned (.string ⟨(Lib.repeatL [b] c).toArray⟩) = _
  rw [repeatL_one]; rfl

theorem repeat_zero (n : Int) (h0 : 0 ≤ n) (h1 : n ≤ 4096) (w : World) :
    Calls Tryz.prog 47 #[.string { data := #[0] }, .int .i64 n] w fun e w' => e = .returned (vs (zeros n.toNat)) ∧ Below w.heap.size w w' := repeat_byte 0 n h0 h1 w

end Go.Proofs.YtobmnnihmbdfjaaGreat
