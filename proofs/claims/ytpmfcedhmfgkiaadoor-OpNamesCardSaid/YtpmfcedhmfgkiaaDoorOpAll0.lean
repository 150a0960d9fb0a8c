/- Package op's All, walked: the operators are told in order. In any world that holds the table. -/
import Derived.Test.YtpmfcedhmfgkiaaDoorOpFac
import Derived.Test.YtpmfcedhmfgkiaaDoorSeq
namespace Go.Proofs.YtpmfcedhmfgkiaaDoor.Ops
open Go Go.RowKit Go.Shelf Range
set_option maxRecDepth 100000
set_option linter.unusedVariables false
set_option linter.unusedSimpArgs false
attribute [local go_sem] Oper.semAt_some

def wordB (x : Nat) : ByteArray := ⟨(Tab.kinds.getD x ([], [])).1.toArray⟩
def takeB (x : Nat) : ByteArray := ⟨(Tab.kinds.getD x ([], [])).2.toArray⟩
def encOp (x : Nat) : Array Value := #[.int .i64 (x : Int), .string (wordB x)]

theorem kix0 (w : World) : (Instr.index 54 (.agg #[.string ⟨#[99, 108, 101, 97, 114]⟩, .string ⟨#[48, 48]⟩, .string ⟨#[115, 114, 99]⟩, .string ⟨#[49, 48]⟩, .string ⟨#[100, 115, 116]⟩, .string ⟨#[48, 49]⟩, .string ⟨#[115, 114, 99, 111, 118, 101, 114]⟩, .string ⟨#[49, 83]⟩, .string ⟨#[100, 115, 116, 111, 118, 101, 114]⟩, .string ⟨#[68, 49]⟩, .string ⟨#[115, 114, 99, 105, 110]⟩, .string ⟨#[100, 48]⟩, .string ⟨#[100, 115, 116, 105, 110]⟩, .string ⟨#[48, 115]⟩, .string ⟨#[115, 114, 99, 111, 117, 116]⟩, .string ⟨#[68, 48]⟩, .string ⟨#[100, 115, 116, 111, 117, 116]⟩, .string ⟨#[48, 83]⟩, .string ⟨#[115, 114, 99, 97, 116, 111, 112]⟩, .string ⟨#[100, 83]⟩, .string ⟨#[100, 115, 116, 97, 116, 111, 112]⟩, .string ⟨#[68, 115]⟩, .string ⟨#[120, 111, 114]⟩, .string ⟨#[68, 83]⟩]) (.int .i64 0)).run Tryd.prog w = .ok (.agg #[.string ⟨#[99, 108, 101, 97, 114]⟩, .string ⟨#[48, 48]⟩]) w := by kernel_rfl
theorem kix1 (w : World) : (Instr.index 54 (.agg #[.string ⟨#[99, 108, 101, 97, 114]⟩, .string ⟨#[48, 48]⟩, .string ⟨#[115, 114, 99]⟩, .string ⟨#[49, 48]⟩, .string ⟨#[100, 115, 116]⟩, .string ⟨#[48, 49]⟩, .string ⟨#[115, 114, 99, 111, 118, 101, 114]⟩, .string ⟨#[49, 83]⟩, .string ⟨#[100, 115, 116, 111, 118, 101, 114]⟩, .string ⟨#[68, 49]⟩, .string ⟨#[115, 114, 99, 105, 110]⟩, .string ⟨#[100, 48]⟩, .string ⟨#[100, 115, 116, 105, 110]⟩, .string ⟨#[48, 115]⟩, .string ⟨#[115, 114, 99, 111, 117, 116]⟩, .string ⟨#[68, 48]⟩, .string ⟨#[100, 115, 116, 111, 117, 116]⟩, .string ⟨#[48, 83]⟩, .string ⟨#[115, 114, 99, 97, 116, 111, 112]⟩, .string ⟨#[100, 83]⟩, .string ⟨#[100, 115, 116, 97, 116, 111, 112]⟩, .string ⟨#[68, 115]⟩, .string ⟨#[120, 111, 114]⟩, .string ⟨#[68, 83]⟩]) (.int .i64 1)).run Tryd.prog w = .ok (.agg #[.string ⟨#[115, 114, 99]⟩, .string ⟨#[49, 48]⟩]) w := by kernel_rfl
theorem kix2 (w : World) : (Instr.index 54 (.agg #[.string ⟨#[99, 108, 101, 97, 114]⟩, .string ⟨#[48, 48]⟩, .string ⟨#[115, 114, 99]⟩, .string ⟨#[49, 48]⟩, .string ⟨#[100, 115, 116]⟩, .string ⟨#[48, 49]⟩, .string ⟨#[115, 114, 99, 111, 118, 101, 114]⟩, .string ⟨#[49, 83]⟩, .string ⟨#[100, 115, 116, 111, 118, 101, 114]⟩, .string ⟨#[68, 49]⟩, .string ⟨#[115, 114, 99, 105, 110]⟩, .string ⟨#[100, 48]⟩, .string ⟨#[100, 115, 116, 105, 110]⟩, .string ⟨#[48, 115]⟩, .string ⟨#[115, 114, 99, 111, 117, 116]⟩, .string ⟨#[68, 48]⟩, .string ⟨#[100, 115, 116, 111, 117, 116]⟩, .string ⟨#[48, 83]⟩, .string ⟨#[115, 114, 99, 97, 116, 111, 112]⟩, .string ⟨#[100, 83]⟩, .string ⟨#[100, 115, 116, 97, 116, 111, 112]⟩, .string ⟨#[68, 115]⟩, .string ⟨#[120, 111, 114]⟩, .string ⟨#[68, 83]⟩]) (.int .i64 2)).run Tryd.prog w = .ok (.agg #[.string ⟨#[100, 115, 116]⟩, .string ⟨#[48, 49]⟩]) w := by kernel_rfl
theorem kix3 (w : World) : (Instr.index 54 (.agg #[.string ⟨#[99, 108, 101, 97, 114]⟩, .string ⟨#[48, 48]⟩, .string ⟨#[115, 114, 99]⟩, .string ⟨#[49, 48]⟩, .string ⟨#[100, 115, 116]⟩, .string ⟨#[48, 49]⟩, .string ⟨#[115, 114, 99, 111, 118, 101, 114]⟩, .string ⟨#[49, 83]⟩, .string ⟨#[100, 115, 116, 111, 118, 101, 114]⟩, .string ⟨#[68, 49]⟩, .string ⟨#[115, 114, 99, 105, 110]⟩, .string ⟨#[100, 48]⟩, .string ⟨#[100, 115, 116, 105, 110]⟩, .string ⟨#[48, 115]⟩, .string ⟨#[115, 114, 99, 111, 117, 116]⟩, .string ⟨#[68, 48]⟩, .string ⟨#[100, 115, 116, 111, 117, 116]⟩, .string ⟨#[48, 83]⟩, .string ⟨#[115, 114, 99, 97, 116, 111, 112]⟩, .string ⟨#[100, 83]⟩, .string ⟨#[100, 115, 116, 97, 116, 111, 112]⟩, .string ⟨#[68, 115]⟩, .string ⟨#[120, 111, 114]⟩, .string ⟨#[68, 83]⟩]) (.int .i64 3)).run Tryd.prog w = .ok (.agg #[.string ⟨#[115, 114, 99, 111, 118, 101, 114]⟩, .string ⟨#[49, 83]⟩]) w := by kernel_rfl
theorem kix4 (w : World) : (Instr.index 54 (.agg #[.string ⟨#[99, 108, 101, 97, 114]⟩, .string ⟨#[48, 48]⟩, .string ⟨#[115, 114, 99]⟩, .string ⟨#[49, 48]⟩, .string ⟨#[100, 115, 116]⟩, .string ⟨#[48, 49]⟩, .string ⟨#[115, 114, 99, 111, 118, 101, 114]⟩, .string ⟨#[49, 83]⟩, .string ⟨#[100, 115, 116, 111, 118, 101, 114]⟩, .string ⟨#[68, 49]⟩, .string ⟨#[115, 114, 99, 105, 110]⟩, .string ⟨#[100, 48]⟩, .string ⟨#[100, 115, 116, 105, 110]⟩, .string ⟨#[48, 115]⟩, .string ⟨#[115, 114, 99, 111, 117, 116]⟩, .string ⟨#[68, 48]⟩, .string ⟨#[100, 115, 116, 111, 117, 116]⟩, .string ⟨#[48, 83]⟩, .string ⟨#[115, 114, 99, 97, 116, 111, 112]⟩, .string ⟨#[100, 83]⟩, .string ⟨#[100, 115, 116, 97, 116, 111, 112]⟩, .string ⟨#[68, 115]⟩, .string ⟨#[120, 111, 114]⟩, .string ⟨#[68, 83]⟩]) (.int .i64 4)).run Tryd.prog w = .ok (.agg #[.string ⟨#[100, 115, 116, 111, 118, 101, 114]⟩, .string ⟨#[68, 49]⟩]) w := by kernel_rfl
theorem kix5 (w : World) : (Instr.index 54 (.agg #[.string ⟨#[99, 108, 101, 97, 114]⟩, .string ⟨#[48, 48]⟩, .string ⟨#[115, 114, 99]⟩, .string ⟨#[49, 48]⟩, .string ⟨#[100, 115, 116]⟩, .string ⟨#[48, 49]⟩, .string ⟨#[115, 114, 99, 111, 118, 101, 114]⟩, .string ⟨#[49, 83]⟩, .string ⟨#[100, 115, 116, 111, 118, 101, 114]⟩, .string ⟨#[68, 49]⟩, .string ⟨#[115, 114, 99, 105, 110]⟩, .string ⟨#[100, 48]⟩, .string ⟨#[100, 115, 116, 105, 110]⟩, .string ⟨#[48, 115]⟩, .string ⟨#[115, 114, 99, 111, 117, 116]⟩, .string ⟨#[68, 48]⟩, .string ⟨#[100, 115, 116, 111, 117, 116]⟩, .string ⟨#[48, 83]⟩, .string ⟨#[115, 114, 99, 97, 116, 111, 112]⟩, .string ⟨#[100, 83]⟩, .string ⟨#[100, 115, 116, 97, 116, 111, 112]⟩, .string ⟨#[68, 115]⟩, .string ⟨#[120, 111, 114]⟩, .string ⟨#[68, 83]⟩]) (.int .i64 5)).run Tryd.prog w = .ok (.agg #[.string ⟨#[115, 114, 99, 105, 110]⟩, .string ⟨#[100, 48]⟩]) w := by kernel_rfl
theorem kix6 (w : World) : (Instr.index 54 (.agg #[.string ⟨#[99, 108, 101, 97, 114]⟩, .string ⟨#[48, 48]⟩, .string ⟨#[115, 114, 99]⟩, .string ⟨#[49, 48]⟩, .string ⟨#[100, 115, 116]⟩, .string ⟨#[48, 49]⟩, .string ⟨#[115, 114, 99, 111, 118, 101, 114]⟩, .string ⟨#[49, 83]⟩, .string ⟨#[100, 115, 116, 111, 118, 101, 114]⟩, .string ⟨#[68, 49]⟩, .string ⟨#[115, 114, 99, 105, 110]⟩, .string ⟨#[100, 48]⟩, .string ⟨#[100, 115, 116, 105, 110]⟩, .string ⟨#[48, 115]⟩, .string ⟨#[115, 114, 99, 111, 117, 116]⟩, .string ⟨#[68, 48]⟩, .string ⟨#[100, 115, 116, 111, 117, 116]⟩, .string ⟨#[48, 83]⟩, .string ⟨#[115, 114, 99, 97, 116, 111, 112]⟩, .string ⟨#[100, 83]⟩, .string ⟨#[100, 115, 116, 97, 116, 111, 112]⟩, .string ⟨#[68, 115]⟩, .string ⟨#[120, 111, 114]⟩, .string ⟨#[68, 83]⟩]) (.int .i64 6)).run Tryd.prog w = .ok (.agg #[.string ⟨#[100, 115, 116, 105, 110]⟩, .string ⟨#[48, 115]⟩]) w := by kernel_rfl
theorem kix7 (w : World) : (Instr.index 54 (.agg #[.string ⟨#[99, 108, 101, 97, 114]⟩, .string ⟨#[48, 48]⟩, .string ⟨#[115, 114, 99]⟩, .string ⟨#[49, 48]⟩, .string ⟨#[100, 115, 116]⟩, .string ⟨#[48, 49]⟩, .string ⟨#[115, 114, 99, 111, 118, 101, 114]⟩, .string ⟨#[49, 83]⟩, .string ⟨#[100, 115, 116, 111, 118, 101, 114]⟩, .string ⟨#[68, 49]⟩, .string ⟨#[115, 114, 99, 105, 110]⟩, .string ⟨#[100, 48]⟩, .string ⟨#[100, 115, 116, 105, 110]⟩, .string ⟨#[48, 115]⟩, .string ⟨#[115, 114, 99, 111, 117, 116]⟩, .string ⟨#[68, 48]⟩, .string ⟨#[100, 115, 116, 111, 117, 116]⟩, .string ⟨#[48, 83]⟩, .string ⟨#[115, 114, 99, 97, 116, 111, 112]⟩, .string ⟨#[100, 83]⟩, .string ⟨#[100, 115, 116, 97, 116, 111, 112]⟩, .string ⟨#[68, 115]⟩, .string ⟨#[120, 111, 114]⟩, .string ⟨#[68, 83]⟩]) (.int .i64 7)).run Tryd.prog w = .ok (.agg #[.string ⟨#[115, 114, 99, 111, 117, 116]⟩, .string ⟨#[68, 48]⟩]) w := by kernel_rfl
theorem kix8 (w : World) : (Instr.index 54 (.agg #[.string ⟨#[99, 108, 101, 97, 114]⟩, .string ⟨#[48, 48]⟩, .string ⟨#[115, 114, 99]⟩, .string ⟨#[49, 48]⟩, .string ⟨#[100, 115, 116]⟩, .string ⟨#[48, 49]⟩, .string ⟨#[115, 114, 99, 111, 118, 101, 114]⟩, .string ⟨#[49, 83]⟩, .string ⟨#[100, 115, 116, 111, 118, 101, 114]⟩, .string ⟨#[68, 49]⟩, .string ⟨#[115, 114, 99, 105, 110]⟩, .string ⟨#[100, 48]⟩, .string ⟨#[100, 115, 116, 105, 110]⟩, .string ⟨#[48, 115]⟩, .string ⟨#[115, 114, 99, 111, 117, 116]⟩, .string ⟨#[68, 48]⟩, .string ⟨#[100, 115, 116, 111, 117, 116]⟩, .string ⟨#[48, 83]⟩, .string ⟨#[115, 114, 99, 97, 116, 111, 112]⟩, .string ⟨#[100, 83]⟩, .string ⟨#[100, 115, 116, 97, 116, 111, 112]⟩, .string ⟨#[68, 115]⟩, .string ⟨#[120, 111, 114]⟩, .string ⟨#[68, 83]⟩]) (.int .i64 8)).run Tryd.prog w = .ok (.agg #[.string ⟨#[100, 115, 116, 111, 117, 116]⟩, .string ⟨#[48, 83]⟩]) w := by kernel_rfl
theorem kix9 (w : World) : (Instr.index 54 (.agg #[.string ⟨#[99, 108, 101, 97, 114]⟩, .string ⟨#[48, 48]⟩, .string ⟨#[115, 114, 99]⟩, .string ⟨#[49, 48]⟩, .string ⟨#[100, 115, 116]⟩, .string ⟨#[48, 49]⟩, .string ⟨#[115, 114, 99, 111, 118, 101, 114]⟩, .string ⟨#[49, 83]⟩, .string ⟨#[100, 115, 116, 111, 118, 101, 114]⟩, .string ⟨#[68, 49]⟩, .string ⟨#[115, 114, 99, 105, 110]⟩, .string ⟨#[100, 48]⟩, .string ⟨#[100, 115, 116, 105, 110]⟩, .string ⟨#[48, 115]⟩, .string ⟨#[115, 114, 99, 111, 117, 116]⟩, .string ⟨#[68, 48]⟩, .string ⟨#[100, 115, 116, 111, 117, 116]⟩, .string ⟨#[48, 83]⟩, .string ⟨#[115, 114, 99, 97, 116, 111, 112]⟩, .string ⟨#[100, 83]⟩, .string ⟨#[100, 115, 116, 97, 116, 111, 112]⟩, .string ⟨#[68, 115]⟩, .string ⟨#[120, 111, 114]⟩, .string ⟨#[68, 83]⟩]) (.int .i64 9)).run Tryd.prog w = .ok (.agg #[.string ⟨#[115, 114, 99, 97, 116, 111, 112]⟩, .string ⟨#[100, 83]⟩]) w := by kernel_rfl
theorem kix10 (w : World) : (Instr.index 54 (.agg #[.string ⟨#[99, 108, 101, 97, 114]⟩, .string ⟨#[48, 48]⟩, .string ⟨#[115, 114, 99]⟩, .string ⟨#[49, 48]⟩, .string ⟨#[100, 115, 116]⟩, .string ⟨#[48, 49]⟩, .string ⟨#[115, 114, 99, 111, 118, 101, 114]⟩, .string ⟨#[49, 83]⟩, .string ⟨#[100, 115, 116, 111, 118, 101, 114]⟩, .string ⟨#[68, 49]⟩, .string ⟨#[115, 114, 99, 105, 110]⟩, .string ⟨#[100, 48]⟩, .string ⟨#[100, 115, 116, 105, 110]⟩, .string ⟨#[48, 115]⟩, .string ⟨#[115, 114, 99, 111, 117, 116]⟩, .string ⟨#[68, 48]⟩, .string ⟨#[100, 115, 116, 111, 117, 116]⟩, .string ⟨#[48, 83]⟩, .string ⟨#[115, 114, 99, 97, 116, 111, 112]⟩, .string ⟨#[100, 83]⟩, .string ⟨#[100, 115, 116, 97, 116, 111, 112]⟩, .string ⟨#[68, 115]⟩, .string ⟨#[120, 111, 114]⟩, .string ⟨#[68, 83]⟩]) (.int .i64 10)).run Tryd.prog w = .ok (.agg #[.string ⟨#[100, 115, 116, 97, 116, 111, 112]⟩, .string ⟨#[68, 115]⟩]) w := by kernel_rfl
theorem kix11 (w : World) : (Instr.index 54 (.agg #[.string ⟨#[99, 108, 101, 97, 114]⟩, .string ⟨#[48, 48]⟩, .string ⟨#[115, 114, 99]⟩, .string ⟨#[49, 48]⟩, .string ⟨#[100, 115, 116]⟩, .string ⟨#[48, 49]⟩, .string ⟨#[115, 114, 99, 111, 118, 101, 114]⟩, .string ⟨#[49, 83]⟩, .string ⟨#[100, 115, 116, 111, 118, 101, 114]⟩, .string ⟨#[68, 49]⟩, .string ⟨#[115, 114, 99, 105, 110]⟩, .string ⟨#[100, 48]⟩, .string ⟨#[100, 115, 116, 105, 110]⟩, .string ⟨#[48, 115]⟩, .string ⟨#[115, 114, 99, 111, 117, 116]⟩, .string ⟨#[68, 48]⟩, .string ⟨#[100, 115, 116, 111, 117, 116]⟩, .string ⟨#[48, 83]⟩, .string ⟨#[115, 114, 99, 97, 116, 111, 112]⟩, .string ⟨#[100, 83]⟩, .string ⟨#[100, 115, 116, 97, 116, 111, 112]⟩, .string ⟨#[68, 115]⟩, .string ⟨#[120, 111, 114]⟩, .string ⟨#[68, 83]⟩]) (.int .i64 11)).run Tryd.prog w = .ok (.agg #[.string ⟨#[120, 111, 114]⟩, .string ⟨#[68, 83]⟩]) w := by kernel_rfl
theorem idx_kinds (k : Nat) (hk : k < 12) (w : World) : (Instr.index 54 (.agg #[.string ⟨#[99, 108, 101, 97, 114]⟩, .string ⟨#[48, 48]⟩, .string ⟨#[115, 114, 99]⟩, .string ⟨#[49, 48]⟩, .string ⟨#[100, 115, 116]⟩, .string ⟨#[48, 49]⟩, .string ⟨#[115, 114, 99, 111, 118, 101, 114]⟩, .string ⟨#[49, 83]⟩, .string ⟨#[100, 115, 116, 111, 118, 101, 114]⟩, .string ⟨#[68, 49]⟩, .string ⟨#[115, 114, 99, 105, 110]⟩, .string ⟨#[100, 48]⟩, .string ⟨#[100, 115, 116, 105, 110]⟩, .string ⟨#[48, 115]⟩, .string ⟨#[115, 114, 99, 111, 117, 116]⟩, .string ⟨#[68, 48]⟩, .string ⟨#[100, 115, 116, 111, 117, 116]⟩, .string ⟨#[48, 83]⟩, .string ⟨#[115, 114, 99, 97, 116, 111, 112]⟩, .string ⟨#[100, 83]⟩, .string ⟨#[100, 115, 116, 97, 116, 111, 112]⟩, .string ⟨#[68, 115]⟩, .string ⟨#[120, 111, 114]⟩, .string ⟨#[68, 83]⟩]) (.int .i64 (k : Int))).run Tryd.prog w = .ok (.agg #[.string (wordB k), .string (takeB k)]) w := by
  rcases (show k = 0 ∨ k = 1 ∨ k = 2 ∨ k = 3 ∨ k = 4 ∨ k = 5 ∨ k = 6 ∨ k = 7 ∨ k = 8 ∨ k = 9 ∨ k = 10 ∨ k = 11 by omega) with rfl | rfl | rfl | rfl | rfl | rfl | rfl | rfl | rfl | rfl | rfl | rfl
  · exact kix0 w
  · exact kix1 w
  · exact kix2 w
  · exact kix3 w
  · exact kix4 w
  · exact kix5 w
  · exact kix6 w
  · exact kix7 w
  · exact kix8 w
  · exact kix9 w
  · exact kix10 w
  · exact kix11 w

theorem kind_cells {W : World} (hk : Kinds W) : ∀ j v, ([.string ⟨#[99, 108, 101, 97, 114]⟩, .string ⟨#[48, 48]⟩, .string ⟨#[115, 114, 99]⟩, .string ⟨#[49, 48]⟩, .string ⟨#[100, 115, 116]⟩, .string ⟨#[48, 49]⟩, .string ⟨#[115, 114, 99, 111, 118, 101, 114]⟩, .string ⟨#[49, 83]⟩, .string ⟨#[100, 115, 116, 111, 118, 101, 114]⟩, .string ⟨#[68, 49]⟩, .string ⟨#[115, 114, 99, 105, 110]⟩, .string ⟨#[100, 48]⟩, .string ⟨#[100, 115, 116, 105, 110]⟩, .string ⟨#[48, 115]⟩, .string ⟨#[115, 114, 99, 111, 117, 116]⟩, .string ⟨#[68, 48]⟩, .string ⟨#[100, 115, 116, 111, 117, 116]⟩, .string ⟨#[48, 83]⟩, .string ⟨#[115, 114, 99, 97, 116, 111, 112]⟩, .string ⟨#[100, 83]⟩, .string ⟨#[100, 115, 116, 97, 116, 111, 112]⟩, .string ⟨#[68, 115]⟩, .string ⟨#[120, 111, 114]⟩, .string ⟨#[68, 83]⟩] : List Value)[j]? = some v → W.cell? ⟨0, j, none⟩ = some v := by
  intro j v hj
  have hl : j < 24 := by simpa using (List.getElem?_eq_some_iff.1 hj).1
  rcases (show j = 0 ∨ j = 1 ∨ j = 2 ∨ j = 3 ∨ j = 4 ∨ j = 5 ∨ j = 6 ∨ j = 7 ∨ j = 8 ∨ j = 9 ∨ j = 10 ∨ j = 11 ∨ j = 12 ∨ j = 13 ∨ j = 14 ∨ j = 15 ∨ j = 16 ∨ j = 17 ∨ j = 18 ∨ j = 19 ∨ j = 20 ∨ j = 21 ∨ j = 22 ∨ j = 23 by omega) with rfl | rfl | rfl | rfl | rfl | rfl | rfl | rfl | rfl | rfl | rfl | rfl | rfl | rfl | rfl | rfl | rfl | rfl | rfl | rfl | rfl | rfl | rfl | rfl
  · simp at hj; subst hj; exact (hk.2 0 _ rfl).1
  · simp at hj; subst hj; exact (hk.2 0 _ rfl).2
  · simp at hj; subst hj; exact (hk.2 1 _ rfl).1
  · simp at hj; subst hj; exact (hk.2 1 _ rfl).2
  · simp at hj; subst hj; exact (hk.2 2 _ rfl).1
  · simp at hj; subst hj; exact (hk.2 2 _ rfl).2
  · simp at hj; subst hj; exact (hk.2 3 _ rfl).1
  · simp at hj; subst hj; exact (hk.2 3 _ rfl).2
  · simp at hj; subst hj; exact (hk.2 4 _ rfl).1
  · simp at hj; subst hj; exact (hk.2 4 _ rfl).2
  · simp at hj; subst hj; exact (hk.2 5 _ rfl).1
  · simp at hj; subst hj; exact (hk.2 5 _ rfl).2
  · simp at hj; subst hj; exact (hk.2 6 _ rfl).1
  · simp at hj; subst hj; exact (hk.2 6 _ rfl).2
  · simp at hj; subst hj; exact (hk.2 7 _ rfl).1
  · simp at hj; subst hj; exact (hk.2 7 _ rfl).2
  · simp at hj; subst hj; exact (hk.2 8 _ rfl).1
  · simp at hj; subst hj; exact (hk.2 8 _ rfl).2
  · simp at hj; subst hj; exact (hk.2 9 _ rfl).1
  · simp at hj; subst hj; exact (hk.2 9 _ rfl).2
  · simp at hj; subst hj; exact (hk.2 10 _ rfl).1
  · simp at hj; subst hj; exact (hk.2 10 _ rfl).2
  · simp at hj; subst hj; exact (hk.2 11 _ rfl).1
  · simp at hj; subst hj; exact (hk.2 11 _ rfl).2

set_option maxHeartbeats 8000000 in
/-- All's answer, to a loop: all of them, in their order. -/
theorem all_gives (n₀ : Nat) (w : World) (hk0 : Kinds w) : Seq.Gives Tryd.prog false 31 #[] encOp n₀ (List.range 12) w := by
  intro l J Jx W hW hJ _ hY h0
  have hk := hk0.below hW
  have hc := kind_cells hk
  simp only [Array.append_empty, List.length_range]
  refine callsIn_of_wp Tryd.func31 rfl trivial ?_ rfl
  simp only [Tryd.ntmps31, List.size_toArray, List.length_cons, List.length_nil, Nat.reduceAdd, Nat.reduceSub, Array.replicate_succ, Array.replicate_zero, List.push_toArray, List.append_toArray, List.nil_append, List.cons_append]
  clear hk hk0 hW
  gi_wp2_with (refine load_cells_in rfl rfl 54 (.global 0) rfl 0 rfl [.string ⟨#[99, 108, 101, 97, 114]⟩, .string ⟨#[48, 48]⟩, .string ⟨#[115, 114, 99]⟩, .string ⟨#[49, 48]⟩, .string ⟨#[100, 115, 116]⟩, .string ⟨#[48, 49]⟩, .string ⟨#[115, 114, 99, 111, 118, 101, 114]⟩, .string ⟨#[49, 83]⟩, .string ⟨#[100, 115, 116, 111, 118, 101, 114]⟩, .string ⟨#[68, 49]⟩, .string ⟨#[115, 114, 99, 105, 110]⟩, .string ⟨#[100, 48]⟩, .string ⟨#[100, 115, 116, 105, 110]⟩, .string ⟨#[48, 115]⟩, .string ⟨#[115, 114, 99, 111, 117, 116]⟩, .string ⟨#[68, 48]⟩, .string ⟨#[100, 115, 116, 111, 117, 116]⟩, .string ⟨#[48, 83]⟩, .string ⟨#[115, 114, 99, 97, 116, 111, 112]⟩, .string ⟨#[100, 83]⟩, .string ⟨#[100, 115, 116, 97, 116, 111, 112]⟩, .string ⟨#[68, 115]⟩, .string ⟨#[120, 111, 114]⟩, .string ⟨#[68, 83]⟩] _ hc Tryd.underlying54 rfl (by kernel_rfl) ?_; clear hc)
  gi_loopw [5] (fun i wr => ∃ k : Nat, k ≤ 12 ∧ i = .int .i64 k ∧ J k wr ∧ W.heap.size ≤ wr.heap.size) (fun i _ => 12 - (intOf i).toNat)
  case atStart => exact ⟨0, by omega, rfl, h0, Nat.le_refl _⟩
  case round =>
    obtain ⟨k, hk, rfl, hJk, hsz⟩ := hrel
    by_cases hlt : k < 12
    · have hi := idx_kinds k hlt
      have hJ2 := hJ k wr (wr.alloc (.cells #[.string (wordB k), .string (takeB k)] 53)) hJk hsz (Seq.tick_alloc hsz _)
      obtain ⟨fn, tmps, assign, body, hy, hR⟩ := hY k k _ (by simp [hlt]) (by simp; omega) hJ2
      have hR := Seq.roundIn_any (ro' := none) (n' := 0 - 1) hR
      unfold encOp at hy
      generalize wordB k = b at *
      generalize takeB k = t at *
      gi_wp2
      refine hR.mono ?_
      rintro e W3 (⟨rfl, hJ3, hk3⟩ | ⟨rfl, hJx3, _⟩)
      · have hs3 := hk3.1.size
        gi_wp2
        go_roundw
        case rel => exact ⟨k + 1, by omega, by go_num, hJ3, by simp at hs3; omega⟩
        case measure => simp [intOf]; omega
      · gi_wp2
        refine bodyPost_ret (results_none rfl _ _ _) rfl ?_
        exact ⟨⟨_, rfl⟩, .inr ⟨k + 1, by omega, hJx3⟩⟩
    · obtain rfl : k = 12 := by omega
      gi_wp2
      go_end0
      exact ⟨⟨_, rfl⟩, .inl hJk⟩

theorem all_calls (w : World) : Calls Tryd.prog 25 #[] w fun e w' => e = .returned (.func (.func 31) #[] #[]) ∧ w = w' := by
  go_enter Tryd.func25, Tryd.ntmps25
  go_wp2
  go_ret
  exact ⟨rfl, rfl⟩
end Go.Proofs.YtpmfcedhmfgkiaaDoor.Ops
