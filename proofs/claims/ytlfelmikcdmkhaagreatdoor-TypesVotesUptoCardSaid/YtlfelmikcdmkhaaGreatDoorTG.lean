/- types: Decode; the document's Read and Decode. -/
import Derived.Test.YtlfelmikcdmkhaaGreatDoorTD
import Derived.Test.YtlfelmikcdmkhaaGreatDoorKF
set_option linter.unusedVariables false
set_option linter.unusedSimpArgs false
set_option linter.unusedSectionVars false
namespace Go.Proofs.YtlfelmikcdmkhaaGreatDoor
open Go Go.Isk Go.RowKit
section
variable {b : Base} {w : World} {L R : List It} {g : Nat} {s : Rdr} {v : Value} {l : Bytes}
theorem mkFault {g : Nat} {x : ByteArray} {e : Int} (he : e ≠ 0) (h1 : -9223372036854775808 ≤ e) (h2 : e ≤ 9223372036854775807) (hs : Sep b w L) (hm : Has L (blkI g T.api_Fault [.string x, .iface EN (.int .i64 e)]) R) : Sep b w ((errF (.iface T.p_api_Fault (.pointer (some ⟨g, 0, none⟩))) e).it :: R) :=
  hs.freeze hm fun S hB => ⟨1, g, x.data.toList, _, rfl, he, ⟨by
    have hr : w.rangeAt g 0 [.string x, .iface EN (.int .i64 e)] := Blk.range hB fun j v hv => by rwa [Nat.zero_add]
    simpa [str] using hr, fun _ => .inr (by simp [blkI])⟩, .inr ⟨rfl, he, h1, h2⟩⟩
theorem types_fault {x : ByteArray} {e : Int} (he : e ≠ 0) (h1 : -9223372036854775808 ≤ e) (h2 : e ≤ 9223372036854775807) (hs : Sep b w L) : C Tryz.prog N.types_fault #[.string x, .int .i64 e] w fun r w' => Sep b w' ((errF r e).it :: L) := by
  refine C.types_fault ?_
  unfold F.types_fault
  repeat with_reducible refine mv.mk ?_
  refine st1 fun k' hk => ?_; simp [go_sem, thenR_ok, bin]; refine hk _ _ ?_; clear hk k'
  refine st_build (cells := #[.string x, .iface EN (.int .i64 e)]) (by kernel_rfl) ?_
  refine sp_box (cs := [.string x, .iface EN (.int .i64 e)]) hs rfl fun g w hs => ?_
  refine st1 fun k' hk => ?_; simp [go_sem, thenR_ok, bin]; refine hk _ _ ?_; clear hk k'
  repeat with_reducible refine mv.mk ?_
  exact mkFault he h1 h2 hs (by first | ((repeat (first | with_reducible exact Has.hd | with_reducible apply Has.tl)); done) | (repeat (first | exact Has.hd | with_reducible apply Has.tl)))
/-- the thing of bytes, or the error's number -/
def decN {α : Type} (g : Rdr → Rdr × α) (none : α) (l : Bytes) : α × Int := match g (some l) with
  | (some [], x) => (x, 0)
  | _ => (none, 3)
def zhC : List Value := headC (str []) (.int .i64 0) (.int .i64 0) (u8s zero32) (u8s zero32) (u8s zero32) (u8s zero32) (u8s zero32) (.int .i64 0)
end
end Go.Proofs.YtlfelmikcdmkhaaGreatDoor
