/- The trees that are used as they stand. -/
import Derived.Test.YtjpjcjnacnlhdaaGreatDz0
import Derived.KernelRfl
namespace Go.Proofs.YtjpjcjnacnlhdaaGreat
open Go.RowKit
set_option linter.unusedVariables false
def T8 : Tr := .call ⟨36, [.pv (.sym 0)], [], .pv (.sym 4), []⟩ 1 (.call ⟨37, [.pv (.sym 1)], [], .pv (.sym 5), []⟩ 1 (.call ⟨38, [.pv (.sym 2)], [], .pv (.sym 6), []⟩ 1 (.call ⟨39, [.ptr 0 0, .pv (.sym 3)], [.box 97 [.pv (.sym 4), .pv (.sym 5), .pv (.sym 6), .mp 1], .mp [] [.pv (.rows [])]], .agg [.pv (.sym 8), .pv (.sym 9)], [.box 97 [.pv (.sym 4), .pv (.sym 5), .pv (.sym 6), .mp 1], .mp [] [.pv (.sym 7)]]⟩ 3 (.alt (.say (.bin .neq 33 (.pv (.sym 8)) (.pv (.lit (.int .i64 0))) (.pv (.lit (.bool true)))) 0 (.ret (.tup [.agg [.pv (.lit (.slice none 0 0)), .pv (.lit (.slice none 0 0)), .pv (.lit (.slice none 0 0))], .agg [.pv (.sym 8), .pv (.sym 9)]]) [])) (.say (.bin .neq 33 (.pv (.sym 8)) (.pv (.lit (.int .i64 0))) (.pv (.lit (.bool false)))) 0 (.ret (.tup [.agg [.pv (.sym 4), .pv (.sym 5), .pv (.sym 6)], .agg [.pv (.lit (.int .i64 0)), .pv (.lit (.int .i64 0))]]) []))))))
def A8 : List AV := [.agg [.pv (.sym 0), .pv (.sym 1), .pv (.sym 2), .pv (.sym 3)]]
def H8 : List AObj := []
set_option maxRecDepth 100000 in
theorem c8 : chk Tryz.prog (leafF Tryz.prog t8 8 A8 H8) T8 4 [] [] [] = true := by kernel_rfl
def T4 : Tr := .alt (.call ⟨6, [], [], .pv (.lit (.bool true)), []⟩ 0 (.alt (.call ⟨12, [.agg [.pv (.sym 0), .pv (.sym 1), .pv (.sym 2), .pv (.sym 3)]], [], .pv (.lit (.bool true)), []⟩ 0 (.call ⟨8, [.agg [.pv (.sym 0), .pv (.sym 1), .pv (.sym 2), .pv (.sym 3)]], [], .tup [.agg [.pv (.sym 4), .pv (.sym 5), .pv (.sym 6)], .agg [.pv (.sym 7), .pv (.sym 8)]], []⟩ 5 (.call ⟨9, [.agg [.pv (.sym 0), .pv (.sym 1), .pv (.sym 2), .pv (.sym 3)]], [], .agg [.pv (.sym 9), .pv (.sym 10)], []⟩ 2 (.alt (.say (.bin .eql 3 (.pv (.sym 7)) (.pv (.sym 9)) (.pv (.lit (.bool true)))) 0 (.alt (.say (.bin .eql 3 (.pv (.sym 8)) (.pv (.sym 10)) (.pv (.lit (.bool true)))) 0 (.ret (.pv (.lit (.bool true))) [])) (.say (.bin .eql 3 (.pv (.sym 8)) (.pv (.sym 10)) (.pv (.lit (.bool false)))) 0 (.ret (.pv (.lit (.bool false))) [])))) (.say (.bin .eql 3 (.pv (.sym 7)) (.pv (.sym 9)) (.pv (.lit (.bool false)))) 0 (.ret (.pv (.lit (.bool false))) [])))))) (.call ⟨12, [.agg [.pv (.sym 0), .pv (.sym 1), .pv (.sym 2), .pv (.sym 3)]], [], .pv (.lit (.bool false)), []⟩ 0 (.ret (.pv (.lit (.bool true))) [])))) (.call ⟨6, [], [], .pv (.lit (.bool false)), []⟩ 0 (.ret (.pv (.lit (.bool false))) []))
def A4 : List AV := [.agg [.pv (.sym 0), .pv (.sym 1), .pv (.sym 2), .pv (.sym 3)]]
def H4 : List AObj := []
set_option maxRecDepth 100000 in
theorem c4 : chk Tryz.prog (leafF Tryz.prog t4 4 A4 H4) T4 4 [] [] [] = true := by kernel_rfl
def T36 : Tr := .alt (.say (.bin .eql 23 (.pv (.sym 0)) (.pv (.lit (.slice none 0 0))) (.pv (.lit (.bool true)))) 0 (.ret (.pv (.lit (.slice none 0 0))) [])) (.say (.bin .eql 23 (.pv (.sym 0)) (.pv (.lit (.slice none 0 0))) (.pv (.lit (.bool false)))) 0 (.alt (.say (.app 23 (.pv (.rows [])) (.pv (.sym 0)) 1) 1 (.ret (.tsym 0 1) [.tok 73 5 (symBase + 1)])) (.say (.app0 23 (.pv (.rows [])) (.pv (.sym 0))) 0 (.ret (.trows 0 []) [.tok 73 5 0]))))
def A36 : List AV := [.pv (.sym 0)]
def H36 : List AObj := []
set_option maxRecDepth 100000 in
theorem c36 : chk Tryz.prog (leafF Tryz.prog t36 36 A36 H36) T36 1 [] [] [] = true := by kernel_rfl
def T37 : Tr := .alt (.say (.bin .eql 24 (.pv (.sym 0)) (.pv (.lit (.slice none 0 0))) (.pv (.lit (.bool true)))) 0 (.ret (.pv (.lit (.slice none 0 0))) [])) (.say (.bin .eql 24 (.pv (.sym 0)) (.pv (.lit (.slice none 0 0))) (.pv (.lit (.bool false)))) 0 (.alt (.say (.app 24 (.pv (.rows [])) (.pv (.sym 0)) 1) 1 (.ret (.tsym 0 1) [.tok 77 6 (symBase + 1)])) (.say (.app0 24 (.pv (.rows [])) (.pv (.sym 0))) 0 (.ret (.trows 0 []) [.tok 77 6 0]))))
def A37 : List AV := [.pv (.sym 0)]
def H37 : List AObj := []
set_option maxRecDepth 100000 in
theorem c37 : chk Tryz.prog (leafF Tryz.prog t37 37 A37 H37) T37 1 [] [] [] = true := by kernel_rfl
def T38 : Tr := .alt (.say (.bin .eql 25 (.pv (.sym 0)) (.pv (.lit (.slice none 0 0))) (.pv (.lit (.bool true)))) 0 (.ret (.pv (.lit (.slice none 0 0))) [])) (.say (.bin .eql 25 (.pv (.sym 0)) (.pv (.lit (.slice none 0 0))) (.pv (.lit (.bool false)))) 0 (.alt (.say (.app 25 (.pv (.rows [])) (.pv (.sym 0)) 1) 1 (.ret (.tsym 0 1) [.tok 81 8 (symBase + 1)])) (.say (.app0 25 (.pv (.rows [])) (.pv (.sym 0))) 0 (.ret (.trows 0 []) [.tok 81 8 0]))))
def A38 : List AV := [.pv (.sym 0)]
def H38 : List AObj := []
set_option maxRecDepth 100000 in
theorem c38 : chk Tryz.prog (leafF Tryz.prog t38 38 A38 H38) T38 1 [] [] [] = true := by kernel_rfl
end Go.Proofs.YtjpjcjnacnlhdaaGreat
