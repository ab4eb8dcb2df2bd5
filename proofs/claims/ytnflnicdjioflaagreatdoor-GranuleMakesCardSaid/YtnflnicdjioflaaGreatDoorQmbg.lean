/- A part of the proof. -/
import Derived.Test.YtnflnicdjioflaaGreatDoorQmbc
set_option linter.unusedVariables false
set_option linter.unusedSimpArgs false
namespace Go.Proofs.YtnflnicdjioflaaGreatDoor
open Go.RowKit Go.Proofs.YtnflnicdjioflaaGreatDoorW.PrintWords Go.Proofs.YtnflnicdjioflaaGreatDoorW.PrintLast Go.Proofs.YtnflnicdjioflaaGreatDoorW.PrintMore
namespace Bk
attribute [local go_sem] max2_int min2_int max_two min_two max_three min_three
open Bts
def BW (k : Nat) : Prop := ∀ (base p : Nat) (q : Option Nat) (L : List Int) (A : Option Addr) (cap : Nat) (l : List Int) (w : World) (hw : Wr w base p q L) (hB4 : 4 ≤ base) (hL : LaidB w) (hr : FarC p q w A l.length l) (hl : l.length ≤ 1000) (hcap : l.length ≤ cap) (hA : areB l = true) (hf : fitB k l = true) (hroom : (L.length : Int) + costB k l ≤ 1048576),
  Calls Tryz.prog 150 #[.pointer (some ⟨p, 0, none⟩), .int .i64 k, .slice A l.length cap] w fun e w' => e = .returned (.int .i64 0) ∧ ∃ bs : List Int, (bs.length : Int) = costB k l ∧ WrP base p q (L ++ bs) w w'
end Bk

end Go.Proofs.YtnflnicdjioflaaGreatDoor
