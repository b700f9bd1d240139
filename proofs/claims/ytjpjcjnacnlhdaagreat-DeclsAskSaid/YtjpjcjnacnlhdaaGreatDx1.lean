/- The chapter's examples: what source 1 parses to. Printed by awake.py. -/
import Derived.Test.YtjpjcjnacnlhdaaGreatDt1
namespace Go.Proofs.YtjpjcjnacnlhdaaGreat
open Go.RowKit

def exSrc1 : ByteArray := ⟨#[99, 108, 97, 115, 115, 32, 69, 113, 32, 97, 32, 119, 104, 101, 114, 101, 32, 101, 110, 100, 59, 32, 105, 110, 115, 116, 97, 110, 99, 101, 32, 69, 113, 32, 73, 110, 116, 32, 119, 104, 101, 114, 101, 32, 101, 110, 100, 59, 32, 105, 110, 115, 116, 97, 110, 99, 101, 32, 69, 113, 32, 73, 110, 116, 32, 119, 104, 101, 114, 101, 32, 101, 110, 100, 59]⟩
set_option maxRecDepth 100000 in
theorem run_p1 : evalF Tryz.prog okT tabT sp0 100000 60 7 [.pv (.lit (.string exSrc1))] [] = some (.tup [.agg [.pv (.lit (.slice none 0 0)), .trows 0 [[.lit (.string ⟨#[69, 113]⟩), .lit (.string ⟨#[97]⟩), .lit (.slice none 0 0), .lit (.slice none 0 0), .lit (.slice none 0 0), .lit (.int .i64 6)]], .trows 1 [[.lit (.string ⟨#[69, 113]⟩), .lit (.int .i64 3), .lit (.string ⟨#[73, 110, 116]⟩), .lit (.int .i64 0), .lit (.slice none 0 0), .lit (.slice none 0 0), .lit (.slice none 0 0), .lit (.int .i64 31)], [.lit (.string ⟨#[69, 113]⟩), .lit (.int .i64 3), .lit (.string ⟨#[73, 110, 116]⟩), .lit (.int .i64 0), .lit (.slice none 0 0), .lit (.slice none 0 0), .lit (.slice none 0 0), .lit (.int .i64 58)]], .pv (.lit (.slice none 0 0))], .pv (.lit (.int .i64 0)), .pv (.lit (.int .i64 0))], [.tok 77 6 1, .tok 81 8 2]) := by kernel_rfl
end Go.Proofs.YtjpjcjnacnlhdaaGreat
