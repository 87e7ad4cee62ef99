
/- SameLasts: slices.Equal over lasts, and the reference's loop; '==' of feet and of styles. -/
import Derived.Test.YtihgjmhhpiobbaaGreatDoorNeq
import Derived.Test.YtihgjmhhpiobbaaGreatDoorOwn
namespace Go.Proofs.YtihgjmhhpiobbaaGreatDoor
open Go.RowKit

set_option maxRecDepth 100000 in
set_option maxHeartbeats 1000000 in
theorem Last.run_neq (x y : Last) (w : World) : (binOp .neq 93 (.agg #[.string x.name, .int .i64 x.length, .int .i64 x.ball, .int .i64 x.instep, .int .i64 x.heel, .int .i64 x.pitch]) (.agg #[.string y.name, .int .i64 y.length, .int .i64 y.ball, .int .i64 y.instep, .int .i64 y.heel, .int .i64 y.pitch])).run Tryz.prog w = .ok (.bool (!(x.beq y))) w := by
  rw [run_neq_struct, run_equalIn_struct w 9999 93 _ _ (by kernel_rfl) (by kernel_rfl)]
  rw [show (Tryz.prog.fieldsOf 93) = _ from by simp [Program.fieldsOf, Tryz.underlying93]; rfl]
  simp [go_sem, bytes_beq, Last.beq]
  repeat' split
  all_goals simp_all

set_option maxRecDepth 100000 in
set_option maxHeartbeats 1000000 in
theorem Foot.run_eql (x y : Foot) (w : World) : (binOp .eql 31 (.agg #[.int .i64 x.length, .int .i64 x.ball, .int .i64 x.instep, .int .i64 x.heel]) (.agg #[.int .i64 y.length, .int .i64 y.ball, .int .i64 y.instep, .int .i64 y.heel])).run Tryz.prog w = .ok (.bool (x.beq y)) w := by
  rw [run_eql_struct, run_equalIn_struct w 9999 31 _ _ (by kernel_rfl) (by kernel_rfl)]
  rw [show (Tryz.prog.fieldsOf 31) = _ from by simp [Program.fieldsOf, Tryz.underlying31]; rfl]
  simp [go_sem, Foot.beq]
  repeat' split
  all_goals simp_all

set_option maxRecDepth 100000 in
set_option maxHeartbeats 1000000 in
theorem Style.run_eql (x y : Style) (w : World) : (binOp .eql 33 (.agg #[.string x.upper, .string x.color, .string x.lining, .string x.sole, .int .i64 x.thick, .int .i64 x.heel, .int .i64 x.eyelets, .int .i64 x.density, .bool x.double]) (.agg #[.string y.upper, .string y.color, .string y.lining, .string y.sole, .int .i64 y.thick, .int .i64 y.heel, .int .i64 y.eyelets, .int .i64 y.density, .bool y.double])).run Tryz.prog w = .ok (.bool (x.beq y)) w := by
  rw [run_eql_struct, run_equalIn_struct w 9999 33 _ _ (by kernel_rfl) (by kernel_rfl)]
  rw [show (Tryz.prog.fieldsOf 33) = _ from by simp [Program.fieldsOf, Tryz.underlying33]; rfl]
  simp [go_sem, bytes_beq, Style.beq]
  repeat' split
  all_goals simp_all

end Go.Proofs.YtihgjmhhpiobbaaGreatDoor
