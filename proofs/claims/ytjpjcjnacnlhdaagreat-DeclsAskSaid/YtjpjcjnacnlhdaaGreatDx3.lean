/- The chapter's examples: what source 3 parses to. Printed by awake.py. -/
import Derived.Test.YtjpjcjnacnlhdaaGreatDt1
namespace Go.Proofs.YtjpjcjnacnlhdaaGreat
open Go.RowKit

def exSrc3 : ByteArray := ⟨#[100, 97, 116, 97, 32, 84, 32, 61, 32, 65, 59]⟩
set_option maxRecDepth 100000 in
theorem run_p3 : evalF Tryz.prog okT tabT sp0 100000 60 7 [.pv (.lit (.string exSrc3))] [] = some (.tup [.agg [.trows 0 [[.lit (.string ⟨#[84]⟩), .lit (.slice none 0 0), .rows [[.lit (.string ⟨#[65]⟩), .lit (.slice none 0 0), .lit (.int .i64 9)]], .lit (.slice none 0 0), .lit (.int .i64 5)]], .pv (.lit (.slice none 0 0)), .pv (.lit (.slice none 0 0)), .pv (.lit (.slice none 0 0))], .pv (.lit (.int .i64 0)), .pv (.lit (.int .i64 0))], [.tok 73 5 1]) := by kernel_rfl
end Go.Proofs.YtjpjcjnacnlhdaaGreat
