/- The chapter's examples: what source 2 parses to. Printed by awake.py. -/
import Derived.Test.YtjpjcjnacnlhdaaGreatDt1
namespace Go.Proofs.YtjpjcjnacnlhdaaGreat
open Go.RowKit

def exSrc2 : ByteArray := ⟨#[100, 97, 116, 97, 32, 84, 32, 61, 32, 65, 59, 32, 99, 108, 97, 115, 115, 32, 69, 113, 32, 97, 32, 119, 104, 101, 114, 101, 32, 101, 110, 100, 59, 32, 99, 108, 97, 115, 115, 32, 79, 114, 100, 32, 97, 32, 102, 114, 111, 109, 32, 69, 113, 32, 119, 104, 101, 114, 101, 32, 101, 110, 100, 59, 32, 105, 110, 115, 116, 97, 110, 99, 101, 32, 79, 114, 100, 32, 84, 32, 119, 104, 101, 114, 101, 32, 101, 110, 100, 59]⟩
set_option maxRecDepth 100000 in
theorem run_p2 : evalF Tryz.prog okT tabT sp0 100000 60 7 [.pv (.lit (.string exSrc2))] [] = some (.tup [.agg [.trows 0 [[.lit (.string ⟨#[84]⟩), .lit (.slice none 0 0), .rows [[.lit (.string ⟨#[65]⟩), .lit (.slice none 0 0), .lit (.int .i64 9)]], .lit (.slice none 0 0), .lit (.int .i64 5)]], .trows 1 [[.lit (.string ⟨#[69, 113]⟩), .lit (.string ⟨#[97]⟩), .lit (.slice none 0 0), .lit (.slice none 0 0), .lit (.slice none 0 0), .lit (.int .i64 18)], [.lit (.string ⟨#[79, 114, 100]⟩), .lit (.string ⟨#[97]⟩), .rows [[.lit (.string ⟨#[69, 113]⟩)]], .lit (.slice none 0 0), .lit (.slice none 0 0), .lit (.int .i64 40)]], .trows 2 [[.lit (.string ⟨#[79, 114, 100]⟩), .lit (.int .i64 3), .lit (.string ⟨#[84]⟩), .lit (.int .i64 0), .lit (.slice none 0 0), .lit (.slice none 0 0), .lit (.slice none 0 0), .lit (.int .i64 74)]], .pv (.lit (.slice none 0 0))], .pv (.lit (.int .i64 0)), .pv (.lit (.int .i64 0))], [.tok 73 5 1, .tok 77 6 2, .tok 81 8 1]) := by kernel_rfl
end Go.Proofs.YtjpjcjnacnlhdaaGreat
