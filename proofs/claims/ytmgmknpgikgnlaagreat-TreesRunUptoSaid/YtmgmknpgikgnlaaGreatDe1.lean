/- The trees of paths, printed by wip/gen/den/Gen.lean. -/
import Derived.Test.YtmgmknpgikgnlaaGreatAbS
import Derived.Test.YtmgmknpgikgnlaaGreatProg
import Derived.KernelRfl
namespace Go.Proofs.YtmgmknpgikgnlaaGreat
open Go.RowKit
attribute [local simp] nm

theorem mixed : Tryz.prog.follows .mixedOrders = true := by kernel_rfl
/-! 3: cognate/cognatelaw27.TreesRun -/
def t3 : FT where
  keep := []
  kb := fun
    | 0 => [69, 68, 10, 12, 11, 3]
    | 2 => [99, 98, 97, 3]
    | _ => []
  sd := fun
    | 16 => [(0, true), (1, true), (2, true), (3, true), (4, true), (5, true), (6, true), (7, true), (8, true), (9, true), (10, true), (11, true), (12, true), (13, true), (14, true), (15, true), (16, true), (17, true), (18, true), (19, true), (20, false), (21, true), (22, true)]
    | 22 => [(0, true), (1, true), (3, true), (4, true), (2, false), (5, false), (6, true)]
    | 25 => [(0, true), (2, true), (1, false), (3, false), (4, false), (5, true)]
    | _ => []
theorem f3_at : Tryz.prog.funcs[3]? = some Tryz.f3 := by kernel_rfl
theorem f3_body : Tryz.f3.body.isSome = true := by kernel_rfl
theorem f3_tab : tabOk t3.sd t3.sx (bodyOf Tryz.f3) = true := by kernel_rfl
-- paths: 21
def T3 : Tr := .alt (.call ⟨4, [], [], .pv (.lit (.bool true)), []⟩ 0 (.call ⟨5, [.agg [.pv (.sym 0), .pv (.sym 1), .pv (.sym 2), .pv (.sym 3), .pv (.sym 4)], .pv (.lit (.int .i64 300))], [], .pv (.sym 14), []⟩ 1 (.alt (.say (.bin .geq 3 (.pv (.sym 14)) (.pv (.lit (.int .i64 300))) (.pv (.lit (.bool true)))) 0 (.ret (.pv (.lit (.bool true))) [])) (.say (.bin .geq 3 (.pv (.sym 14)) (.pv (.lit (.int .i64 300))) (.pv (.lit (.bool false)))) 0 (.alt (.call ⟨6, [.agg [.pv (.sym 0), .pv (.sym 1), .pv (.sym 2), .pv (.sym 3), .pv (.sym 4)], .agg [.pv (.sym 5), .pv (.sym 6), .pv (.sym 7), .pv (.sym 8)]], [], .tup [.pv (.sym 15), .pv (.lit (.bool true))], []⟩ 1 (.call ⟨7, [.agg [.pv (.sym 0), .pv (.sym 1), .pv (.sym 2), .pv (.sym 3), .pv (.sym 4)], .agg [.pv (.sym 5), .pv (.sym 6), .pv (.sym 7), .pv (.sym 8)]], [], .pv (.sym 16), []⟩ 1 (.alt (.say (.bin .neq 3 (.pv (.sym 15)) (.pv (.sym 16)) (.pv (.lit (.bool true)))) 0 (.ret (.pv (.lit (.bool false))) [])) (.say (.bin .neq 3 (.pv (.sym 15)) (.pv (.sym 16)) (.pv (.lit (.bool false)))) 0 (.call ⟨8, [.agg [.pv (.sym 9), .pv (.sym 10), .pv (.sym 11), .pv (.sym 12), .pv (.sym 13)]], [], .tup [.pv (.sym 17), .pv (.sym 18)], []⟩ 2 (.call ⟨9, [.agg [.pv (.sym 9), .pv (.sym 10), .pv (.sym 11), .pv (.sym 12), .pv (.sym 13)], .pv (.rows [])], [], .pv (.sym 19), []⟩ 1 (.say (.len 38 (.pv (.sym 17)) (.pv (.sym 20))) 1 (.say (.len 42 (.pv (.sym 19)) (.pv (.sym 21))) 1 (.alt (.say (.bin .neq 3 (.pv (.sym 20)) (.pv (.sym 21)) (.pv (.lit (.bool true)))) 0 (.ret (.pv (.lit (.bool false))) [])) (.say (.bin .neq 3 (.pv (.sym 20)) (.pv (.sym 21)) (.pv (.lit (.bool false)))) 0 (.say (.len 39 (.pv (.sym 18)) (.pv (.sym 22))) 1 (.alt (.say (.bin .neq 3 (.pv (.sym 22)) (.pv (.sym 21)) (.pv (.lit (.bool true)))) 0 (.ret (.pv (.lit (.bool false))) [])) (.say (.bin .neq 3 (.pv (.sym 22)) (.pv (.sym 21)) (.pv (.lit (.bool false)))) 0 (.alt (.blk ⟨0, [(69, .pv (.lit (.int .i64 0))), (68, .pv (.sym 21)), (10, .pv (.sym 17)), (12, .pv (.sym 19)), (11, .pv (.sym 18)), (3, .ptr 0 0)], [.box 26 [.pv (.sym 0), .pv (.sym 1), .pv (.sym 2), .pv (.sym 3), .pv (.sym 4)]], .normal, [(3, .ptr 0 0)], [.box 26 [.pv (.sym 0), .pv (.sym 1), .pv (.sym 2), .pv (.sym 3), .pv (.sym 4)]]⟩ 0 (.say (.len 24 (.pv (.sym 4)) (.pv (.sym 23))) 1 (.alt (.blk ⟨2, [(99, .pv (.lit (.int .i64 0))), (98, .pv (.sym 23)), (97, .pv (.sym 4)), (3, .ptr 0 0)], [.box 26 [.pv (.sym 0), .pv (.sym 1), .pv (.sym 2), .pv (.sym 3), .pv (.sym 4)]], .normal, [(3, .ptr 0 0)], [.box 26 [.pv (.sym 0), .pv (.sym 1), .pv (.sym 2), .pv (.sym 3), .pv (.sym 4)]]⟩ 0 (.call ⟨13, [.agg [.pv (.sym 0), .pv (.sym 1), .pv (.sym 2), .pv (.sym 3), .pv (.sym 4)]], [], .pv (.sym 24), []⟩ 1 (.call ⟨14, [.agg [.pv (.sym 0), .pv (.sym 1), .pv (.sym 2), .pv (.sym 3), .pv (.sym 4)]], [], .pv (.sym 25), []⟩ 1 (.alt (.call ⟨10, [.pv (.sym 24), .pv (.sym 25)], [], .pv (.lit (.bool true)), []⟩ 0 (.ret (.pv (.lit (.bool true))) [])) (.call ⟨10, [.pv (.sym 24), .pv (.sym 25)], [], .pv (.lit (.bool false)), []⟩ 0 (.ret (.pv (.lit (.bool false))) [])))))) (.alt (.blk ⟨2, [(99, .pv (.lit (.int .i64 0))), (98, .pv (.sym 23)), (97, .pv (.sym 4)), (3, .ptr 0 0)], [.box 26 [.pv (.sym 0), .pv (.sym 1), .pv (.sym 2), .pv (.sym 3), .pv (.sym 4)]], .ret, [(6, .pv (.lit (.bool true)))], [.box 26 [.pv (.sym 0), .pv (.sym 1), .pv (.sym 2), .pv (.sym 3), .pv (.sym 4)]]⟩ 0 (.ret (.pv (.lit (.bool true))) [])) (.blk ⟨2, [(99, .pv (.lit (.int .i64 0))), (98, .pv (.sym 23)), (97, .pv (.sym 4)), (3, .ptr 0 0)], [.box 26 [.pv (.sym 0), .pv (.sym 1), .pv (.sym 2), .pv (.sym 3), .pv (.sym 4)]], .ret, [(6, .pv (.lit (.bool false)))], [.box 26 [.pv (.sym 0), .pv (.sym 1), .pv (.sym 2), .pv (.sym 3), .pv (.sym 4)]]⟩ 0 (.ret (.pv (.lit (.bool false))) [])))))) (.alt (.blk ⟨0, [(69, .pv (.lit (.int .i64 0))), (68, .pv (.sym 21)), (10, .pv (.sym 17)), (12, .pv (.sym 19)), (11, .pv (.sym 18)), (3, .ptr 0 0)], [.box 26 [.pv (.sym 0), .pv (.sym 1), .pv (.sym 2), .pv (.sym 3), .pv (.sym 4)]], .ret, [(6, .pv (.lit (.bool true)))], [.box 26 [.pv (.sym 0), .pv (.sym 1), .pv (.sym 2), .pv (.sym 3), .pv (.sym 4)]]⟩ 0 (.ret (.pv (.lit (.bool true))) [])) (.blk ⟨0, [(69, .pv (.lit (.int .i64 0))), (68, .pv (.sym 21)), (10, .pv (.sym 17)), (12, .pv (.sym 19)), (11, .pv (.sym 18)), (3, .ptr 0 0)], [.box 26 [.pv (.sym 0), .pv (.sym 1), .pv (.sym 2), .pv (.sym 3), .pv (.sym 4)]], .ret, [(6, .pv (.lit (.bool false)))], [.box 26 [.pv (.sym 0), .pv (.sym 1), .pv (.sym 2), .pv (.sym 3), .pv (.sym 4)]]⟩ 0 (.ret (.pv (.lit (.bool false))) []))))))))))))))))) (.call ⟨6, [.agg [.pv (.sym 0), .pv (.sym 1), .pv (.sym 2), .pv (.sym 3), .pv (.sym 4)], .agg [.pv (.sym 5), .pv (.sym 6), .pv (.sym 7), .pv (.sym 8)]], [], .tup [.pv (.sym 15), .pv (.lit (.bool false))], []⟩ 1 (.call ⟨7, [.agg [.pv (.sym 0), .pv (.sym 1), .pv (.sym 2), .pv (.sym 3), .pv (.sym 4)], .agg [.pv (.sym 5), .pv (.sym 6), .pv (.sym 7), .pv (.sym 8)]], [], .pv (.sym 16), []⟩ 1 (.alt (.say (.bin .neq 3 (.pv (.sym 16)) (.pv (.lit (.int .i64 (-1)))) (.pv (.lit (.bool true)))) 0 (.ret (.pv (.lit (.bool false))) [])) (.say (.bin .neq 3 (.pv (.sym 16)) (.pv (.lit (.int .i64 (-1)))) (.pv (.lit (.bool false)))) 0 (.alt (.say (.bin .neq 3 (.pv (.sym 15)) (.pv (.lit (.int .i64 0))) (.pv (.lit (.bool true)))) 0 (.ret (.pv (.lit (.bool false))) [])) (.say (.bin .neq 3 (.pv (.sym 15)) (.pv (.lit (.int .i64 0))) (.pv (.lit (.bool false)))) 0 (.call ⟨8, [.agg [.pv (.sym 9), .pv (.sym 10), .pv (.sym 11), .pv (.sym 12), .pv (.sym 13)]], [], .tup [.pv (.sym 17), .pv (.sym 18)], []⟩ 2 (.call ⟨9, [.agg [.pv (.sym 9), .pv (.sym 10), .pv (.sym 11), .pv (.sym 12), .pv (.sym 13)], .pv (.rows [])], [], .pv (.sym 19), []⟩ 1 (.say (.len 38 (.pv (.sym 17)) (.pv (.sym 20))) 1 (.say (.len 42 (.pv (.sym 19)) (.pv (.sym 21))) 1 (.alt (.say (.bin .neq 3 (.pv (.sym 20)) (.pv (.sym 21)) (.pv (.lit (.bool true)))) 0 (.ret (.pv (.lit (.bool false))) [])) (.say (.bin .neq 3 (.pv (.sym 20)) (.pv (.sym 21)) (.pv (.lit (.bool false)))) 0 (.say (.len 39 (.pv (.sym 18)) (.pv (.sym 22))) 1 (.alt (.say (.bin .neq 3 (.pv (.sym 22)) (.pv (.sym 21)) (.pv (.lit (.bool true)))) 0 (.ret (.pv (.lit (.bool false))) [])) (.say (.bin .neq 3 (.pv (.sym 22)) (.pv (.sym 21)) (.pv (.lit (.bool false)))) 0 (.alt (.blk ⟨0, [(69, .pv (.lit (.int .i64 0))), (68, .pv (.sym 21)), (10, .pv (.sym 17)), (12, .pv (.sym 19)), (11, .pv (.sym 18)), (3, .ptr 0 0)], [.box 26 [.pv (.sym 0), .pv (.sym 1), .pv (.sym 2), .pv (.sym 3), .pv (.sym 4)]], .normal, [(3, .ptr 0 0)], [.box 26 [.pv (.sym 0), .pv (.sym 1), .pv (.sym 2), .pv (.sym 3), .pv (.sym 4)]]⟩ 0 (.say (.len 24 (.pv (.sym 4)) (.pv (.sym 23))) 1 (.alt (.blk ⟨2, [(99, .pv (.lit (.int .i64 0))), (98, .pv (.sym 23)), (97, .pv (.sym 4)), (3, .ptr 0 0)], [.box 26 [.pv (.sym 0), .pv (.sym 1), .pv (.sym 2), .pv (.sym 3), .pv (.sym 4)]], .normal, [(3, .ptr 0 0)], [.box 26 [.pv (.sym 0), .pv (.sym 1), .pv (.sym 2), .pv (.sym 3), .pv (.sym 4)]]⟩ 0 (.call ⟨13, [.agg [.pv (.sym 0), .pv (.sym 1), .pv (.sym 2), .pv (.sym 3), .pv (.sym 4)]], [], .pv (.sym 24), []⟩ 1 (.call ⟨14, [.agg [.pv (.sym 0), .pv (.sym 1), .pv (.sym 2), .pv (.sym 3), .pv (.sym 4)]], [], .pv (.sym 25), []⟩ 1 (.alt (.call ⟨10, [.pv (.sym 24), .pv (.sym 25)], [], .pv (.lit (.bool true)), []⟩ 0 (.ret (.pv (.lit (.bool true))) [])) (.call ⟨10, [.pv (.sym 24), .pv (.sym 25)], [], .pv (.lit (.bool false)), []⟩ 0 (.ret (.pv (.lit (.bool false))) [])))))) (.alt (.blk ⟨2, [(99, .pv (.lit (.int .i64 0))), (98, .pv (.sym 23)), (97, .pv (.sym 4)), (3, .ptr 0 0)], [.box 26 [.pv (.sym 0), .pv (.sym 1), .pv (.sym 2), .pv (.sym 3), .pv (.sym 4)]], .ret, [(6, .pv (.lit (.bool true)))], [.box 26 [.pv (.sym 0), .pv (.sym 1), .pv (.sym 2), .pv (.sym 3), .pv (.sym 4)]]⟩ 0 (.ret (.pv (.lit (.bool true))) [])) (.blk ⟨2, [(99, .pv (.lit (.int .i64 0))), (98, .pv (.sym 23)), (97, .pv (.sym 4)), (3, .ptr 0 0)], [.box 26 [.pv (.sym 0), .pv (.sym 1), .pv (.sym 2), .pv (.sym 3), .pv (.sym 4)]], .ret, [(6, .pv (.lit (.bool false)))], [.box 26 [.pv (.sym 0), .pv (.sym 1), .pv (.sym 2), .pv (.sym 3), .pv (.sym 4)]]⟩ 0 (.ret (.pv (.lit (.bool false))) [])))))) (.alt (.blk ⟨0, [(69, .pv (.lit (.int .i64 0))), (68, .pv (.sym 21)), (10, .pv (.sym 17)), (12, .pv (.sym 19)), (11, .pv (.sym 18)), (3, .ptr 0 0)], [.box 26 [.pv (.sym 0), .pv (.sym 1), .pv (.sym 2), .pv (.sym 3), .pv (.sym 4)]], .ret, [(6, .pv (.lit (.bool true)))], [.box 26 [.pv (.sym 0), .pv (.sym 1), .pv (.sym 2), .pv (.sym 3), .pv (.sym 4)]]⟩ 0 (.ret (.pv (.lit (.bool true))) [])) (.blk ⟨0, [(69, .pv (.lit (.int .i64 0))), (68, .pv (.sym 21)), (10, .pv (.sym 17)), (12, .pv (.sym 19)), (11, .pv (.sym 18)), (3, .ptr 0 0)], [.box 26 [.pv (.sym 0), .pv (.sym 1), .pv (.sym 2), .pv (.sym 3), .pv (.sym 4)]], .ret, [(6, .pv (.lit (.bool false)))], [.box 26 [.pv (.sym 0), .pv (.sym 1), .pv (.sym 2), .pv (.sym 3), .pv (.sym 4)]]⟩ 0 (.ret (.pv (.lit (.bool false))) [])))))))))))))))))))))))) (.call ⟨4, [], [], .pv (.lit (.bool false)), []⟩ 0 (.ret (.pv (.lit (.bool false))) []))
def A3 : List AV := [.agg [.pv (.sym 0), .pv (.sym 1), .pv (.sym 2), .pv (.sym 3), .pv (.sym 4)], .agg [.pv (.sym 5), .pv (.sym 6), .pv (.sym 7), .pv (.sym 8)], .agg [.pv (.sym 9), .pv (.sym 10), .pv (.sym 11), .pv (.sym 12), .pv (.sym 13)]]
def H3 : List AObj := []
set_option maxRecDepth 100000 in
theorem c3 : chk Tryz.prog (leafF Tryz.prog t3 3 A3 H3) T3 14 [] [] [] = true := by kernel_rfl
theorem F3 (x0 : PV) (x1 : PV) (x2 : PV) (x3 : PV) (x4 : PV) (x5 : PV) (x6 : PV) (x7 : PV) (x8 : PV) (x9 : PV) (x10 : PV) (x11 : PV) (x12 : PV) (x13 : PV) (hn : NSL [x0, x1, x2, x3, x4, x5, x6, x7, x8, x9, x10, x11, x12, x13]) {v : AV} {h' : List AObj} (hd : Den Tryz.prog Tryz.f3 T3 [x0, x1, x2, x3, x4, x5, x6, x7, x8, x9, x10, x11, x12, x13] (.ret v h')) :
    Sem Tryz.prog 3 [.agg [.pv x0, .pv x1, .pv x2, .pv x3, .pv x4], .agg [.pv x5, .pv x6, .pv x7, .pv x8], .agg [.pv x9, .pv x10, .pv x11, .pv x12, .pv x13]] [] v h' :=
  fun_rule f3_at f3_body mixed f3_tab (args := A3) (h := H3) (by kernel_rfl) c3 rfl hn (by simp [A3]) (by trivial) hd
theorem f3_loop0 : isLoop1 (subs 0 (bodyOf Tryz.f3)) = true := by kernel_rfl
theorem f3_tab0 : tabOk t3.sd t3.sx (lb Tryz.f3 0) = true := by kernel_rfl
-- loop 0, objects before it: 1; paths: 4
def T3b0a : Tr := .alt (.say (.bin .lss 3 (.pv (.sym 0)) (.pv (.sym 1)) (.pv (.lit (.bool true)))) 0 (.say (.idx 38 (.pv (.sym 2)) (.pv (.sym 0)) (.cptr [.sym 10])) 1 (.say (.idx 42 (.pv (.sym 3)) (.pv (.sym 0)) (.cptr [.sym 11, .sym 12])) 2 (.alt (.say (.bin .neq 9 (.pv (.sym 10)) (.pv (.sym 11)) (.pv (.lit (.bool true)))) 0 (.code .ret [(6, .pv (.lit (.bool false)))] [.box 26 [.pv (.sym 5), .pv (.sym 6), .pv (.sym 7), .pv (.sym 8), .pv (.sym 9)]])) (.say (.bin .neq 9 (.pv (.sym 10)) (.pv (.sym 11)) (.pv (.lit (.bool false)))) 0 (.say (.idx 39 (.pv (.sym 4)) (.pv (.sym 0)) (.cptr [.sym 13])) 1 (.alt (.call ⟨10, [.pv (.sym 13), .pv (.sym 12)], [], .pv (.lit (.bool true)), []⟩ 0 (.say (.bin .add 3 (.pv (.sym 0)) (.pv (.lit (.int .i64 1))) (.pv (.sym 14))) 1 (.code .normal [(69, .pv (.sym 14)), (68, .pv (.sym 1)), (10, .pv (.sym 2)), (12, .pv (.sym 3)), (11, .pv (.sym 4)), (3, .ptr 0 0)] [.box 26 [.pv (.sym 5), .pv (.sym 6), .pv (.sym 7), .pv (.sym 8), .pv (.sym 9)]]))) (.call ⟨10, [.pv (.sym 13), .pv (.sym 12)], [], .pv (.lit (.bool false)), []⟩ 0 (.code .ret [(6, .pv (.lit (.bool false)))] [.box 26 [.pv (.sym 5), .pv (.sym 6), .pv (.sym 7), .pv (.sym 8), .pv (.sym 9)]]))))))))) (.say (.bin .lss 3 (.pv (.sym 0)) (.pv (.sym 1)) (.pv (.lit (.bool false)))) 0 (.code (.exit 0) [(3, .ptr 0 0)] [.box 26 [.pv (.sym 5), .pv (.sym 6), .pv (.sym 7), .pv (.sym 8), .pv (.sym 9)]]))
def E3b0a : Env := [(69, .pv (.sym 0)), (68, .pv (.sym 1)), (10, .pv (.sym 2)), (12, .pv (.sym 3)), (11, .pv (.sym 4)), (3, .ptr 0 0)]
def H3b0a : List AObj := [.box 26 [.pv (.sym 5), .pv (.sym 6), .pv (.sym 7), .pv (.sym 8), .pv (.sym 9)]]
set_option maxRecDepth 100000 in
theorem c3b0a : chk Tryz.prog (leafC Tryz.prog Tryz.f3 t3 (lb Tryz.f3 0) 1 E3b0a H3b0a) T3b0a 10 [] [] [] = true := by kernel_rfl
theorem L3b0a (x0 : PV) (x1 : PV) (x2 : PV) (x3 : PV) (x4 : PV) (x5 : PV) (x6 : PV) (x7 : PV) (x8 : PV) (x9 : PV) (hn : NSL [x0, x1, x2, x3, x4, x5, x6, x7, x8, x9]) (hh : TsH (nm [x0, x1, x2, x3, x4, x5, x6, x7, x8, x9]) H3b0a) {ex : AExit} {e' : Env} {h' : List AObj} (hd : Den Tryz.prog Tryz.f3 T3b0a [x0, x1, x2, x3, x4, x5, x6, x7, x8, x9] (.code ex e' h')) (R : Nat → PV) :
    CodeB R Tryz.prog Tryz.f3.ntmps (lb Tryz.f3 0) 1 [(69, .pv x0), (68, .pv x1), (10, .pv x2), (12, .pv x3), (11, .pv x4), (3, .ptr 0 0)] [.box 26 [.pv x5, .pv x6, .pv x7, .pv x8, .pv x9]] ex e' h' :=
  body_rule f3_loop0 mixed f3_tab0 (e := E3b0a) (h := H3b0a) (by kernel_rfl) c3b0a rfl hn (by simp [E3b0a]) hh hd R
theorem f3_loop2 : isLoop1 (subs 2 (bodyOf Tryz.f3)) = true := by kernel_rfl
theorem f3_tab2 : tabOk t3.sd t3.sx (lb Tryz.f3 2) = true := by kernel_rfl
-- loop 2, objects before it: 1; paths: 5
def T3b2a : Tr := .alt (.say (.bin .lss 3 (.pv (.sym 0)) (.pv (.sym 1)) (.pv (.lit (.bool true)))) 0 (.say (.idx 24 (.pv (.sym 2)) (.pv (.sym 0)) (.cptr [.sym 8, .sym 9, .sym 10, .sym 11, .sym 12])) 5 (.alt (.call ⟨11, [.agg [.pv (.sym 3), .pv (.sym 4), .pv (.sym 5), .pv (.sym 6), .pv (.sym 7)], .agg [.pv (.sym 8), .pv (.sym 9), .pv (.sym 10), .pv (.sym 11), .pv (.sym 12)]], [], .pv (.lit (.bool true)), []⟩ 0 (.alt (.call ⟨12, [.agg [.pv (.sym 3), .pv (.sym 4), .pv (.sym 5), .pv (.sym 6), .pv (.sym 7)], .agg [.pv (.sym 8), .pv (.sym 9), .pv (.sym 10), .pv (.sym 11), .pv (.sym 12)]], [], .pv (.lit (.bool true)), []⟩ 0 (.say (.bin .add 3 (.pv (.sym 0)) (.pv (.lit (.int .i64 1))) (.pv (.sym 13))) 1 (.code .normal [(99, .pv (.sym 13)), (98, .pv (.sym 1)), (97, .pv (.sym 2)), (3, .ptr 0 0)] [.box 26 [.pv (.sym 3), .pv (.sym 4), .pv (.sym 5), .pv (.sym 6), .pv (.sym 7)]]))) (.call ⟨12, [.agg [.pv (.sym 3), .pv (.sym 4), .pv (.sym 5), .pv (.sym 6), .pv (.sym 7)], .agg [.pv (.sym 8), .pv (.sym 9), .pv (.sym 10), .pv (.sym 11), .pv (.sym 12)]], [], .pv (.lit (.bool false)), []⟩ 0 (.code .ret [(6, .pv (.lit (.bool false)))] [.box 26 [.pv (.sym 3), .pv (.sym 4), .pv (.sym 5), .pv (.sym 6), .pv (.sym 7)]])))) (.call ⟨11, [.agg [.pv (.sym 3), .pv (.sym 4), .pv (.sym 5), .pv (.sym 6), .pv (.sym 7)], .agg [.pv (.sym 8), .pv (.sym 9), .pv (.sym 10), .pv (.sym 11), .pv (.sym 12)]], [], .pv (.lit (.bool false)), []⟩ 0 (.alt (.call ⟨12, [.agg [.pv (.sym 3), .pv (.sym 4), .pv (.sym 5), .pv (.sym 6), .pv (.sym 7)], .agg [.pv (.sym 8), .pv (.sym 9), .pv (.sym 10), .pv (.sym 11), .pv (.sym 12)]], [], .pv (.lit (.bool true)), []⟩ 0 (.code .ret [(6, .pv (.lit (.bool false)))] [.box 26 [.pv (.sym 3), .pv (.sym 4), .pv (.sym 5), .pv (.sym 6), .pv (.sym 7)]])) (.call ⟨12, [.agg [.pv (.sym 3), .pv (.sym 4), .pv (.sym 5), .pv (.sym 6), .pv (.sym 7)], .agg [.pv (.sym 8), .pv (.sym 9), .pv (.sym 10), .pv (.sym 11), .pv (.sym 12)]], [], .pv (.lit (.bool false)), []⟩ 0 (.say (.bin .add 3 (.pv (.sym 0)) (.pv (.lit (.int .i64 1))) (.pv (.sym 13))) 1 (.code .normal [(99, .pv (.sym 13)), (98, .pv (.sym 1)), (97, .pv (.sym 2)), (3, .ptr 0 0)] [.box 26 [.pv (.sym 3), .pv (.sym 4), .pv (.sym 5), .pv (.sym 6), .pv (.sym 7)]])))))))) (.say (.bin .lss 3 (.pv (.sym 0)) (.pv (.sym 1)) (.pv (.lit (.bool false)))) 0 (.code (.exit 2) [(3, .ptr 0 0)] [.box 26 [.pv (.sym 3), .pv (.sym 4), .pv (.sym 5), .pv (.sym 6), .pv (.sym 7)]]))
def E3b2a : Env := [(99, .pv (.sym 0)), (98, .pv (.sym 1)), (97, .pv (.sym 2)), (3, .ptr 0 0)]
def H3b2a : List AObj := [.box 26 [.pv (.sym 3), .pv (.sym 4), .pv (.sym 5), .pv (.sym 6), .pv (.sym 7)]]
set_option maxRecDepth 100000 in
theorem c3b2a : chk Tryz.prog (leafC Tryz.prog Tryz.f3 t3 (lb Tryz.f3 2) 1 E3b2a H3b2a) T3b2a 8 [] [] [] = true := by kernel_rfl
theorem L3b2a (x0 : PV) (x1 : PV) (x2 : PV) (x3 : PV) (x4 : PV) (x5 : PV) (x6 : PV) (x7 : PV) (hn : NSL [x0, x1, x2, x3, x4, x5, x6, x7]) (hh : TsH (nm [x0, x1, x2, x3, x4, x5, x6, x7]) H3b2a) {ex : AExit} {e' : Env} {h' : List AObj} (hd : Den Tryz.prog Tryz.f3 T3b2a [x0, x1, x2, x3, x4, x5, x6, x7] (.code ex e' h')) (R : Nat → PV) :
    CodeB R Tryz.prog Tryz.f3.ntmps (lb Tryz.f3 2) 1 [(99, .pv x0), (98, .pv x1), (97, .pv x2), (3, .ptr 0 0)] [.box 26 [.pv x3, .pv x4, .pv x5, .pv x6, .pv x7]] ex e' h' :=
  body_rule f3_loop2 mixed f3_tab2 (e := E3b2a) (h := H3b2a) (by kernel_rfl) c3b2a rfl hn (by simp [E3b2a]) hh hd R
/-! 5: cognate/cognatelaw27.small -/
def t5 : FT where
  keep := []
  kb := fun
    | 0 => [6, 2, 5, 1]
    | 2 => [7, 2, 5, 1]
    | _ => []
  sd := fun
    | _ => []
theorem f5_at : Tryz.prog.funcs[5]? = some Tryz.f5 := by kernel_rfl
theorem f5_body : Tryz.f5.body.isSome = true := by kernel_rfl
theorem f5_tab : tabOk t5.sd t5.sx (bodyOf Tryz.f5) = true := by kernel_rfl
-- paths: 1
def T5 : Tr := .say (.len 22 (.pv (.sym 2)) (.pv (.sym 6))) 1 (.say (.bin .add 3 (.pv (.lit (.int .i64 1))) (.pv (.sym 6)) (.pv (.sym 7))) 1 (.blk ⟨0, [(6, .pv (.lit (.int .i64 0))), (2, .ptr 0 0), (5, .pv (.sym 7)), (1, .pv (.sym 5))], [.box 26 [.pv (.sym 0), .pv (.sym 1), .pv (.sym 2), .pv (.sym 3), .pv (.sym 4)]], .normal, [(2, .ptr 0 0), (5, .pv (.sym 8)), (1, .pv (.sym 5))], [.box 26 [.pv (.sym 0), .pv (.sym 1), .pv (.sym 2), .pv (.sym 3), .pv (.sym 4)]]⟩ 1 (.blk ⟨2, [(7, .pv (.lit (.int .i64 0))), (2, .ptr 0 0), (5, .pv (.sym 8)), (1, .pv (.sym 5))], [.box 26 [.pv (.sym 0), .pv (.sym 1), .pv (.sym 2), .pv (.sym 3), .pv (.sym 4)]], .normal, [(5, .pv (.sym 9))], [.box 26 [.pv (.sym 0), .pv (.sym 1), .pv (.sym 2), .pv (.sym 3), .pv (.sym 4)]]⟩ 1 (.ret (.pv (.sym 9)) []))))
def A5 : List AV := [.agg [.pv (.sym 0), .pv (.sym 1), .pv (.sym 2), .pv (.sym 3), .pv (.sym 4)], .pv (.sym 5)]
def H5 : List AObj := []
set_option maxRecDepth 100000 in
theorem c5 : chk Tryz.prog (leafF Tryz.prog t5 5 A5 H5) T5 6 [] [] [] = true := by kernel_rfl
theorem F5 (x0 : PV) (x1 : PV) (x2 : PV) (x3 : PV) (x4 : PV) (x5 : PV) (hn : NSL [x0, x1, x2, x3, x4, x5]) {v : AV} {h' : List AObj} (hd : Den Tryz.prog Tryz.f5 T5 [x0, x1, x2, x3, x4, x5] (.ret v h')) :
    Sem Tryz.prog 5 [.agg [.pv x0, .pv x1, .pv x2, .pv x3, .pv x4], .pv x5] [] v h' :=
  fun_rule f5_at f5_body mixed f5_tab (args := A5) (h := H5) (by kernel_rfl) c5 rfl hn (by simp [A5]) (by trivial) hd
theorem f5_loop0 : isLoop1 (subs 0 (bodyOf Tryz.f5)) = true := by kernel_rfl
theorem f5_tab0 : tabOk t5.sd t5.sx (lb Tryz.f5 0) = true := by kernel_rfl
-- loop 0, objects before it: 1; paths: 3
def T5b0a : Tr := .say (.len 23 (.pv (.sym 6)) (.pv (.sym 8))) 1 (.alt (.say (.bin .lss 3 (.pv (.sym 0)) (.pv (.sym 8)) (.pv (.lit (.bool true)))) 0 (.alt (.say (.bin .lss 3 (.pv (.sym 1)) (.pv (.sym 2)) (.pv (.lit (.bool true)))) 0 (.say (.idx 23 (.pv (.sym 6)) (.pv (.sym 0)) (.cptr [.sym 9, .sym 10, .sym 11, .sym 12, .sym 13, .sym 14, .sym 15, .sym 16])) 8 (.say (.bin .sub 3 (.pv (.sym 2)) (.pv (.sym 1)) (.pv (.sym 17))) 1 (.call ⟨5, [.agg [.pv (.sym 12), .pv (.sym 13), .pv (.sym 14), .pv (.sym 15), .pv (.sym 16)], .pv (.sym 17)], [], .pv (.sym 18), []⟩ 1 (.say (.bin .add 3 (.pv (.sym 1)) (.pv (.sym 18)) (.pv (.sym 19))) 1 (.say (.bin .add 3 (.pv (.sym 0)) (.pv (.lit (.int .i64 1))) (.pv (.sym 20))) 1 (.code .normal [(6, .pv (.sym 20)), (2, .ptr 0 0), (5, .pv (.sym 19)), (1, .pv (.sym 2))] [.box 26 [.pv (.sym 3), .pv (.sym 4), .pv (.sym 5), .pv (.sym 6), .pv (.sym 7)]]))))))) (.say (.bin .lss 3 (.pv (.sym 1)) (.pv (.sym 2)) (.pv (.lit (.bool false)))) 0 (.code (.exit 0) [(2, .ptr 0 0), (5, .pv (.sym 1)), (1, .pv (.sym 2))] [.box 26 [.pv (.sym 3), .pv (.sym 4), .pv (.sym 5), .pv (.sym 6), .pv (.sym 7)]])))) (.say (.bin .lss 3 (.pv (.sym 0)) (.pv (.sym 8)) (.pv (.lit (.bool false)))) 0 (.code (.exit 0) [(2, .ptr 0 0), (5, .pv (.sym 1)), (1, .pv (.sym 2))] [.box 26 [.pv (.sym 3), .pv (.sym 4), .pv (.sym 5), .pv (.sym 6), .pv (.sym 7)]])))
def E5b0a : Env := [(6, .pv (.sym 0)), (2, .ptr 0 0), (5, .pv (.sym 1)), (1, .pv (.sym 2))]
def H5b0a : List AObj := [.box 26 [.pv (.sym 3), .pv (.sym 4), .pv (.sym 5), .pv (.sym 6), .pv (.sym 7)]]
set_option maxRecDepth 100000 in
theorem c5b0a : chk Tryz.prog (leafC Tryz.prog Tryz.f5 t5 (lb Tryz.f5 0) 1 E5b0a H5b0a) T5b0a 8 [] [] [] = true := by kernel_rfl
theorem L5b0a (x0 : PV) (x1 : PV) (x2 : PV) (x3 : PV) (x4 : PV) (x5 : PV) (x6 : PV) (x7 : PV) (hn : NSL [x0, x1, x2, x3, x4, x5, x6, x7]) (hh : TsH (nm [x0, x1, x2, x3, x4, x5, x6, x7]) H5b0a) {ex : AExit} {e' : Env} {h' : List AObj} (hd : Den Tryz.prog Tryz.f5 T5b0a [x0, x1, x2, x3, x4, x5, x6, x7] (.code ex e' h')) (R : Nat → PV) :
    CodeB R Tryz.prog Tryz.f5.ntmps (lb Tryz.f5 0) 1 [(6, .pv x0), (2, .ptr 0 0), (5, .pv x1), (1, .pv x2)] [.box 26 [.pv x3, .pv x4, .pv x5, .pv x6, .pv x7]] ex e' h' :=
  body_rule f5_loop0 mixed f5_tab0 (e := E5b0a) (h := H5b0a) (by kernel_rfl) c5b0a rfl hn (by simp [E5b0a]) hh hd R
theorem f5_loop2 : isLoop1 (subs 2 (bodyOf Tryz.f5)) = true := by kernel_rfl
theorem f5_tab2 : tabOk t5.sd t5.sx (lb Tryz.f5 2) = true := by kernel_rfl
-- loop 2, objects before it: 1; paths: 3
def T5b2a : Tr := .say (.len 24 (.pv (.sym 7)) (.pv (.sym 8))) 1 (.alt (.say (.bin .lss 3 (.pv (.sym 0)) (.pv (.sym 8)) (.pv (.lit (.bool true)))) 0 (.alt (.say (.bin .lss 3 (.pv (.sym 1)) (.pv (.sym 2)) (.pv (.lit (.bool true)))) 0 (.say (.idx 24 (.pv (.sym 7)) (.pv (.sym 0)) (.cptr [.sym 9, .sym 10, .sym 11, .sym 12, .sym 13])) 5 (.say (.bin .sub 3 (.pv (.sym 2)) (.pv (.sym 1)) (.pv (.sym 14))) 1 (.call ⟨5, [.agg [.pv (.sym 9), .pv (.sym 10), .pv (.sym 11), .pv (.sym 12), .pv (.sym 13)], .pv (.sym 14)], [], .pv (.sym 15), []⟩ 1 (.say (.bin .add 3 (.pv (.sym 1)) (.pv (.sym 15)) (.pv (.sym 16))) 1 (.say (.bin .add 3 (.pv (.sym 0)) (.pv (.lit (.int .i64 1))) (.pv (.sym 17))) 1 (.code .normal [(7, .pv (.sym 17)), (2, .ptr 0 0), (5, .pv (.sym 16)), (1, .pv (.sym 2))] [.box 26 [.pv (.sym 3), .pv (.sym 4), .pv (.sym 5), .pv (.sym 6), .pv (.sym 7)]]))))))) (.say (.bin .lss 3 (.pv (.sym 1)) (.pv (.sym 2)) (.pv (.lit (.bool false)))) 0 (.code (.exit 2) [(5, .pv (.sym 1))] [.box 26 [.pv (.sym 3), .pv (.sym 4), .pv (.sym 5), .pv (.sym 6), .pv (.sym 7)]])))) (.say (.bin .lss 3 (.pv (.sym 0)) (.pv (.sym 8)) (.pv (.lit (.bool false)))) 0 (.code (.exit 2) [(5, .pv (.sym 1))] [.box 26 [.pv (.sym 3), .pv (.sym 4), .pv (.sym 5), .pv (.sym 6), .pv (.sym 7)]])))
def E5b2a : Env := [(7, .pv (.sym 0)), (2, .ptr 0 0), (5, .pv (.sym 1)), (1, .pv (.sym 2))]
def H5b2a : List AObj := [.box 26 [.pv (.sym 3), .pv (.sym 4), .pv (.sym 5), .pv (.sym 6), .pv (.sym 7)]]
set_option maxRecDepth 100000 in
theorem c5b2a : chk Tryz.prog (leafC Tryz.prog Tryz.f5 t5 (lb Tryz.f5 2) 1 E5b2a H5b2a) T5b2a 8 [] [] [] = true := by kernel_rfl
theorem L5b2a (x0 : PV) (x1 : PV) (x2 : PV) (x3 : PV) (x4 : PV) (x5 : PV) (x6 : PV) (x7 : PV) (hn : NSL [x0, x1, x2, x3, x4, x5, x6, x7]) (hh : TsH (nm [x0, x1, x2, x3, x4, x5, x6, x7]) H5b2a) {ex : AExit} {e' : Env} {h' : List AObj} (hd : Den Tryz.prog Tryz.f5 T5b2a [x0, x1, x2, x3, x4, x5, x6, x7] (.code ex e' h')) (R : Nat → PV) :
    CodeB R Tryz.prog Tryz.f5.ntmps (lb Tryz.f5 2) 1 [(7, .pv x0), (2, .ptr 0 0), (5, .pv x1), (1, .pv x2)] [.box 26 [.pv x3, .pv x4, .pv x5, .pv x6, .pv x7]] ex e' h' :=
  body_rule f5_loop2 mixed f5_tab2 (e := E5b2a) (h := H5b2a) (by kernel_rfl) c5b2a rfl hn (by simp [E5b2a]) hh hd R
/-! 6: cognate/trees.Run -/
def t6 : FT where
  keep := []
  kb := fun
    | 0 => [2, 3]
    | _ => []
  sd := fun
    | _ => []
theorem f6_at : Tryz.prog.funcs[6]? = some Tryz.f6 := by kernel_rfl
theorem f6_body : Tryz.f6.body.isSome = true := by kernel_rfl
theorem f6_tab : tabOk t6.sd t6.sx (bodyOf Tryz.f6) = true := by kernel_rfl
-- paths: 4
def T6 : Tr := .alt (.blk ⟨0, [(2, .ptr 0 0), (3, .ptr 1 0)], [.box 26 [.pv (.sym 0), .pv (.sym 1), .pv (.sym 2), .pv (.sym 3), .pv (.sym 4)], .box 29 [.pv (.sym 5), .pv (.sym 6), .pv (.sym 7), .pv (.sym 8)]], .normal, [(2, .ptr 0 0)], [.box 26 [.pv (.sym 9), .pv (.sym 10), .pv (.sym 11), .pv (.sym 12), .pv (.sym 13)], .box 29 [.pv (.sym 5), .pv (.sym 6), .pv (.sym 7), .pv (.sym 8)]]⟩ 5 (.alt (.say (.bin .neq 3 (.pv (.sym 9)) (.pv (.lit (.int .i64 1))) (.pv (.lit (.bool true)))) 0 (.ret (.tup [.pv (.lit (.int .i64 0)), .pv (.lit (.bool false))]) [])) (.say (.bin .neq 3 (.pv (.sym 9)) (.pv (.lit (.int .i64 1))) (.pv (.lit (.bool false)))) 0 (.ret (.tup [.pv (.sym 10), .pv (.lit (.bool true))]) [])))) (.alt (.blk ⟨0, [(2, .ptr 0 0), (3, .ptr 1 0)], [.box 26 [.pv (.sym 0), .pv (.sym 1), .pv (.sym 2), .pv (.sym 3), .pv (.sym 4)], .box 29 [.pv (.sym 5), .pv (.sym 6), .pv (.sym 7), .pv (.sym 8)]], .ret, [(4, .pv (.sym 14)), (5, .pv (.lit (.bool true)))], [.box 26 [.pv (.sym 9), .pv (.sym 10), .pv (.sym 11), .pv (.sym 12), .pv (.sym 13)], .box 29 [.pv (.sym 5), .pv (.sym 6), .pv (.sym 7), .pv (.sym 8)]]⟩ 6 (.ret (.tup [.pv (.sym 14), .pv (.lit (.bool true))]) [])) (.blk ⟨0, [(2, .ptr 0 0), (3, .ptr 1 0)], [.box 26 [.pv (.sym 0), .pv (.sym 1), .pv (.sym 2), .pv (.sym 3), .pv (.sym 4)], .box 29 [.pv (.sym 5), .pv (.sym 6), .pv (.sym 7), .pv (.sym 8)]], .ret, [(4, .pv (.sym 14)), (5, .pv (.lit (.bool false)))], [.box 26 [.pv (.sym 9), .pv (.sym 10), .pv (.sym 11), .pv (.sym 12), .pv (.sym 13)], .box 29 [.pv (.sym 5), .pv (.sym 6), .pv (.sym 7), .pv (.sym 8)]]⟩ 6 (.ret (.tup [.pv (.sym 14), .pv (.lit (.bool false))]) [])))
def A6 : List AV := [.agg [.pv (.sym 0), .pv (.sym 1), .pv (.sym 2), .pv (.sym 3), .pv (.sym 4)], .agg [.pv (.sym 5), .pv (.sym 6), .pv (.sym 7), .pv (.sym 8)]]
def H6 : List AObj := []
set_option maxRecDepth 100000 in
theorem c6 : chk Tryz.prog (leafF Tryz.prog t6 6 A6 H6) T6 9 [] [] [] = true := by kernel_rfl
theorem F6 (x0 : PV) (x1 : PV) (x2 : PV) (x3 : PV) (x4 : PV) (x5 : PV) (x6 : PV) (x7 : PV) (x8 : PV) (hn : NSL [x0, x1, x2, x3, x4, x5, x6, x7, x8]) {v : AV} {h' : List AObj} (hd : Den Tryz.prog Tryz.f6 T6 [x0, x1, x2, x3, x4, x5, x6, x7, x8] (.ret v h')) :
    Sem Tryz.prog 6 [.agg [.pv x0, .pv x1, .pv x2, .pv x3, .pv x4], .agg [.pv x5, .pv x6, .pv x7, .pv x8]] [] v h' :=
  fun_rule f6_at f6_body mixed f6_tab (args := A6) (h := H6) (by kernel_rfl) c6 rfl hn (by simp [A6]) (by trivial) hd
theorem f6_loop0 : isLoop1 (subs 0 (bodyOf Tryz.f6)) = true := by kernel_rfl
theorem f6_tab0 : tabOk t6.sd t6.sx (lb Tryz.f6 0) = true := by kernel_rfl
-- loop 0, objects before it: 2; paths: 5
def T6b0a : Tr := .alt (.say (.bin .eql 3 (.pv (.sym 0)) (.pv (.lit (.int .i64 2))) (.pv (.lit (.bool true)))) 0 (.alt (.call ⟨17, [.agg [.pv (.sym 5), .pv (.sym 6), .pv (.sym 7), .pv (.sym 8)], .pv (.sym 2)], [], .tup [.agg [.pv (.sym 9), .pv (.sym 10), .pv (.sym 11), .pv (.sym 12)], .pv (.lit (.bool true))], []⟩ 4 (.call ⟨18, [.pv (.sym 3), .fn 19 [.ptr 0 0]], [.box 29 [.pv (.sym 9), .pv (.sym 10), .pv (.sym 11), .pv (.sym 12)]], .pv (.sym 13), [.box 29 [.pv (.sym 9), .pv (.sym 10), .pv (.sym 11), .pv (.sym 12)]]⟩ 1 (.alt (.say (.bin .geq 3 (.pv (.sym 13)) (.pv (.lit (.int .i64 0))) (.pv (.lit (.bool true)))) 0 (.say (.idx 23 (.pv (.sym 3)) (.pv (.sym 13)) (.cptr [.sym 14, .sym 15, .sym 16, .sym 17, .sym 18, .sym 19, .sym 20, .sym 21])) 8 (.code .normal [(2, .ptr 0 0), (3, .ptr 1 0)] [.box 26 [.pv (.sym 17), .pv (.sym 18), .pv (.sym 19), .pv (.sym 20), .pv (.sym 21)], .box 29 [.pv (.sym 5), .pv (.sym 6), .pv (.sym 7), .pv (.sym 8)]]))) (.say (.bin .geq 3 (.pv (.sym 13)) (.pv (.lit (.int .i64 0))) (.pv (.lit (.bool false)))) 0 (.say (.len 24 (.pv (.sym 4)) (.pv (.sym 14))) 1 (.alt (.say (.bin .gtr 3 (.pv (.sym 14)) (.pv (.lit (.int .i64 0))) (.pv (.lit (.bool true)))) 0 (.say (.idx 24 (.pv (.sym 4)) (.pv (.lit (.int .i64 0))) (.cptr [.sym 15, .sym 16, .sym 17, .sym 18, .sym 19])) 5 (.code .normal [(2, .ptr 0 0), (3, .ptr 1 0)] [.box 26 [.pv (.sym 15), .pv (.sym 16), .pv (.sym 17), .pv (.sym 18), .pv (.sym 19)], .box 29 [.pv (.sym 5), .pv (.sym 6), .pv (.sym 7), .pv (.sym 8)]]))) (.say (.bin .gtr 3 (.pv (.sym 14)) (.pv (.lit (.int .i64 0))) (.pv (.lit (.bool false)))) 0 (.code .ret [(4, .pv (.lit (.int .i64 0))), (5, .pv (.lit (.bool false)))] [.box 26 [.pv (.sym 0), .pv (.sym 1), .pv (.sym 2), .pv (.sym 3), .pv (.sym 4)], .box 29 [.pv (.sym 5), .pv (.sym 6), .pv (.sym 7), .pv (.sym 8)]])))))))) (.call ⟨17, [.agg [.pv (.sym 5), .pv (.sym 6), .pv (.sym 7), .pv (.sym 8)], .pv (.sym 2)], [], .tup [.agg [.pv (.sym 9), .pv (.sym 10), .pv (.sym 11), .pv (.sym 12)], .pv (.lit (.bool false))], []⟩ 4 (.code .ret [(4, .pv (.lit (.int .i64 0))), (5, .pv (.lit (.bool false)))] [.box 26 [.pv (.sym 0), .pv (.sym 1), .pv (.sym 2), .pv (.sym 3), .pv (.sym 4)], .box 29 [.pv (.sym 5), .pv (.sym 6), .pv (.sym 7), .pv (.sym 8)]])))) (.say (.bin .eql 3 (.pv (.sym 0)) (.pv (.lit (.int .i64 2))) (.pv (.lit (.bool false)))) 0 (.code (.exit 0) [(2, .ptr 0 0)] [.box 26 [.pv (.sym 0), .pv (.sym 1), .pv (.sym 2), .pv (.sym 3), .pv (.sym 4)], .box 29 [.pv (.sym 5), .pv (.sym 6), .pv (.sym 7), .pv (.sym 8)]]))
def E6b0a : Env := [(2, .ptr 0 0), (3, .ptr 1 0)]
def H6b0a : List AObj := [.box 26 [.pv (.sym 0), .pv (.sym 1), .pv (.sym 2), .pv (.sym 3), .pv (.sym 4)], .box 29 [.pv (.sym 5), .pv (.sym 6), .pv (.sym 7), .pv (.sym 8)]]
set_option maxRecDepth 100000 in
theorem c6b0a : chk Tryz.prog (leafC Tryz.prog Tryz.f6 t6 (lb Tryz.f6 0) 2 E6b0a H6b0a) T6b0a 9 [] [] [] = true := by kernel_rfl
theorem L6b0a (x0 : PV) (x1 : PV) (x2 : PV) (x3 : PV) (x4 : PV) (x5 : PV) (x6 : PV) (x7 : PV) (x8 : PV) (hn : NSL [x0, x1, x2, x3, x4, x5, x6, x7, x8]) (hh : TsH (nm [x0, x1, x2, x3, x4, x5, x6, x7, x8]) H6b0a) {ex : AExit} {e' : Env} {h' : List AObj} (hd : Den Tryz.prog Tryz.f6 T6b0a [x0, x1, x2, x3, x4, x5, x6, x7, x8] (.code ex e' h')) (R : Nat → PV) :
    CodeB R Tryz.prog Tryz.f6.ntmps (lb Tryz.f6 0) 2 [(2, .ptr 0 0), (3, .ptr 1 0)] [.box 26 [.pv x0, .pv x1, .pv x2, .pv x3, .pv x4], .box 29 [.pv x5, .pv x6, .pv x7, .pv x8]] ex e' h' :=
  body_rule f6_loop0 mixed f6_tab0 (e := E6b0a) (h := H6b0a) (by kernel_rfl) c6b0a rfl hn (by simp [E6b0a]) hh hd R
/-! 7: cognate/cognateref27.Run -/
def t7 : FT where
  keep := []
  kb := fun
    | 0 => [7, 2, 5, 3]
    | _ => []
  sd := fun
    | 15 => [(0, true), (1, true), (2, true), (3, true), (4, true), (5, false), (6, true)]
    | _ => []
theorem f7_at : Tryz.prog.funcs[7]? = some Tryz.f7 := by kernel_rfl
theorem f7_body : Tryz.f7.body.isSome = true := by kernel_rfl
theorem f7_tab : tabOk t7.sd t7.sx (bodyOf Tryz.f7) = true := by kernel_rfl
-- paths: 6
def T7 : Tr := .alt (.say (.bin .eql 3 (.pv (.sym 0)) (.pv (.lit (.int .i64 1))) (.pv (.lit (.bool true)))) 0 (.ret (.pv (.sym 1)) [])) (.say (.bin .eql 3 (.pv (.sym 0)) (.pv (.lit (.int .i64 1))) (.pv (.lit (.bool false)))) 0 (.alt (.say (.bin .neq 3 (.pv (.sym 0)) (.pv (.lit (.int .i64 2))) (.pv (.lit (.bool true)))) 0 (.ret (.pv (.lit (.int .i64 (-1)))) [])) (.say (.bin .neq 3 (.pv (.sym 0)) (.pv (.lit (.int .i64 2))) (.pv (.lit (.bool false)))) 0 (.alt (.call ⟨20, [.agg [.pv (.sym 5), .pv (.sym 6), .pv (.sym 7), .pv (.sym 8)], .pv (.sym 2)], [], .tup [.agg [.pv (.sym 9), .pv (.sym 10), .pv (.sym 11), .pv (.sym 12)], .pv (.lit (.bool true))], []⟩ 4 (.alt (.blk ⟨0, [(7, .pv (.lit (.int .i64 0))), (2, .ptr 0 0), (5, .ptr 1 0), (3, .ptr 2 0)], [.box 26 [.pv (.sym 0), .pv (.sym 1), .pv (.sym 2), .pv (.sym 3), .pv (.sym 4)], .box 29 [.pv (.sym 9), .pv (.sym 10), .pv (.sym 11), .pv (.sym 12)], .box 29 [.pv (.sym 5), .pv (.sym 6), .pv (.sym 7), .pv (.sym 8)]], .normal, [(2, .ptr 0 0), (3, .ptr 2 0)], [.box 26 [.pv (.sym 0), .pv (.sym 1), .pv (.sym 2), .pv (.sym 3), .pv (.sym 4)], .box 29 [.pv (.sym 9), .pv (.sym 10), .pv (.sym 11), .pv (.sym 12)], .box 29 [.pv (.sym 5), .pv (.sym 6), .pv (.sym 7), .pv (.sym 8)]]⟩ 0 (.say (.len 24 (.pv (.sym 4)) (.pv (.sym 13))) 1 (.alt (.say (.bin .gtr 3 (.pv (.sym 13)) (.pv (.lit (.int .i64 0))) (.pv (.lit (.bool true)))) 0 (.say (.idx 24 (.pv (.sym 4)) (.pv (.lit (.int .i64 0))) (.cptr [.sym 14, .sym 15, .sym 16, .sym 17, .sym 18])) 5 (.call ⟨7, [.agg [.pv (.sym 14), .pv (.sym 15), .pv (.sym 16), .pv (.sym 17), .pv (.sym 18)], .agg [.pv (.sym 5), .pv (.sym 6), .pv (.sym 7), .pv (.sym 8)]], [], .pv (.sym 19), []⟩ 1 (.ret (.pv (.sym 19)) [])))) (.say (.bin .gtr 3 (.pv (.sym 13)) (.pv (.lit (.int .i64 0))) (.pv (.lit (.bool false)))) 0 (.ret (.pv (.lit (.int .i64 (-1)))) []))))) (.blk ⟨0, [(7, .pv (.lit (.int .i64 0))), (2, .ptr 0 0), (5, .ptr 1 0), (3, .ptr 2 0)], [.box 26 [.pv (.sym 0), .pv (.sym 1), .pv (.sym 2), .pv (.sym 3), .pv (.sym 4)], .box 29 [.pv (.sym 9), .pv (.sym 10), .pv (.sym 11), .pv (.sym 12)], .box 29 [.pv (.sym 5), .pv (.sym 6), .pv (.sym 7), .pv (.sym 8)]], .ret, [(4, .pv (.sym 13))], [.box 26 [.pv (.sym 0), .pv (.sym 1), .pv (.sym 2), .pv (.sym 3), .pv (.sym 4)], .box 29 [.pv (.sym 9), .pv (.sym 10), .pv (.sym 11), .pv (.sym 12)], .box 29 [.pv (.sym 5), .pv (.sym 6), .pv (.sym 7), .pv (.sym 8)]]⟩ 1 (.ret (.pv (.sym 13)) [])))) (.call ⟨20, [.agg [.pv (.sym 5), .pv (.sym 6), .pv (.sym 7), .pv (.sym 8)], .pv (.sym 2)], [], .tup [.agg [.pv (.sym 9), .pv (.sym 10), .pv (.sym 11), .pv (.sym 12)], .pv (.lit (.bool false))], []⟩ 4 (.ret (.pv (.lit (.int .i64 (-1)))) []))))))
def A7 : List AV := [.agg [.pv (.sym 0), .pv (.sym 1), .pv (.sym 2), .pv (.sym 3), .pv (.sym 4)], .agg [.pv (.sym 5), .pv (.sym 6), .pv (.sym 7), .pv (.sym 8)]]
def H7 : List AObj := []
set_option maxRecDepth 100000 in
theorem c7 : chk Tryz.prog (leafF Tryz.prog t7 7 A7 H7) T7 9 [] [] [] = true := by kernel_rfl
theorem F7 (x0 : PV) (x1 : PV) (x2 : PV) (x3 : PV) (x4 : PV) (x5 : PV) (x6 : PV) (x7 : PV) (x8 : PV) (hn : NSL [x0, x1, x2, x3, x4, x5, x6, x7, x8]) {v : AV} {h' : List AObj} (hd : Den Tryz.prog Tryz.f7 T7 [x0, x1, x2, x3, x4, x5, x6, x7, x8] (.ret v h')) :
    Sem Tryz.prog 7 [.agg [.pv x0, .pv x1, .pv x2, .pv x3, .pv x4], .agg [.pv x5, .pv x6, .pv x7, .pv x8]] [] v h' :=
  fun_rule f7_at f7_body mixed f7_tab (args := A7) (h := H7) (by kernel_rfl) c7 rfl hn (by simp [A7]) (by trivial) hd
theorem f7_loop0 : isLoop1 (subs 0 (bodyOf Tryz.f7)) = true := by kernel_rfl
theorem f7_tab0 : tabOk t7.sd t7.sx (lb Tryz.f7 0) = true := by kernel_rfl
-- loop 0, objects before it: 3; paths: 9
def T7b0a : Tr := .say (.len 23 (.pv (.sym 4)) (.pv (.sym 14))) 1 (.alt (.say (.bin .lss 3 (.pv (.sym 0)) (.pv (.sym 14)) (.pv (.lit (.bool true)))) 0 (.say (.idx 23 (.pv (.sym 4)) (.pv (.sym 0)) (.cptr [.sym 15, .sym 16, .sym 17, .sym 18, .sym 19, .sym 20, .sym 21, .sym 22])) 8 (.alt (.say (.bin .eql 3 (.pv (.sym 15)) (.pv (.sym 6)) (.pv (.lit (.bool true)))) 0 (.alt (.say (.bin .eql 3 (.pv (.sym 15)) (.pv (.lit (.int .i64 3))) (.pv (.lit (.bool true)))) 0 (.alt (.say (.bin .eql 9 (.pv (.sym 16)) (.pv (.sym 8)) (.pv (.lit (.bool true)))) 0 (.call ⟨7, [.agg [.pv (.sym 18), .pv (.sym 19), .pv (.sym 20), .pv (.sym 21), .pv (.sym 22)], .agg [.pv (.sym 10), .pv (.sym 11), .pv (.sym 12), .pv (.sym 13)]], [], .pv (.sym 23), []⟩ 1 (.code .ret [(4, .pv (.sym 23))] [.box 26 [.pv (.sym 1), .pv (.sym 2), .pv (.sym 3), .pv (.sym 4), .pv (.sym 5)], .box 29 [.pv (.sym 6), .pv (.sym 7), .pv (.sym 8), .pv (.sym 9)], .box 29 [.pv (.sym 10), .pv (.sym 11), .pv (.sym 12), .pv (.sym 13)]]))) (.say (.bin .eql 9 (.pv (.sym 16)) (.pv (.sym 8)) (.pv (.lit (.bool false)))) 0 (.alt (.say (.bin .eql 3 (.pv (.sym 15)) (.pv (.lit (.int .i64 4))) (.pv (.lit (.bool true)))) 0 (.alt (.say (.bin .eql 2 (.pv (.sym 17)) (.pv (.sym 7)) (.pv (.lit (.bool true)))) 0 (.call ⟨7, [.agg [.pv (.sym 18), .pv (.sym 19), .pv (.sym 20), .pv (.sym 21), .pv (.sym 22)], .agg [.pv (.sym 10), .pv (.sym 11), .pv (.sym 12), .pv (.sym 13)]], [], .pv (.sym 23), []⟩ 1 (.code .ret [(4, .pv (.sym 23))] [.box 26 [.pv (.sym 1), .pv (.sym 2), .pv (.sym 3), .pv (.sym 4), .pv (.sym 5)], .box 29 [.pv (.sym 6), .pv (.sym 7), .pv (.sym 8), .pv (.sym 9)], .box 29 [.pv (.sym 10), .pv (.sym 11), .pv (.sym 12), .pv (.sym 13)]]))) (.say (.bin .eql 2 (.pv (.sym 17)) (.pv (.sym 7)) (.pv (.lit (.bool false)))) 0 (.say (.bin .add 3 (.pv (.sym 0)) (.pv (.lit (.int .i64 1))) (.pv (.sym 23))) 1 (.code .normal [(7, .pv (.sym 23)), (2, .ptr 0 0), (5, .ptr 1 0), (3, .ptr 2 0)] [.box 26 [.pv (.sym 1), .pv (.sym 2), .pv (.sym 3), .pv (.sym 4), .pv (.sym 5)], .box 29 [.pv (.sym 6), .pv (.sym 7), .pv (.sym 8), .pv (.sym 9)], .box 29 [.pv (.sym 10), .pv (.sym 11), .pv (.sym 12), .pv (.sym 13)]]))))) (.say (.bin .eql 3 (.pv (.sym 15)) (.pv (.lit (.int .i64 4))) (.pv (.lit (.bool false)))) 0 (.say (.bin .add 3 (.pv (.sym 0)) (.pv (.lit (.int .i64 1))) (.pv (.sym 23))) 1 (.code .normal [(7, .pv (.sym 23)), (2, .ptr 0 0), (5, .ptr 1 0), (3, .ptr 2 0)] [.box 26 [.pv (.sym 1), .pv (.sym 2), .pv (.sym 3), .pv (.sym 4), .pv (.sym 5)], .box 29 [.pv (.sym 6), .pv (.sym 7), .pv (.sym 8), .pv (.sym 9)], .box 29 [.pv (.sym 10), .pv (.sym 11), .pv (.sym 12), .pv (.sym 13)]]))))))) (.say (.bin .eql 3 (.pv (.sym 15)) (.pv (.lit (.int .i64 3))) (.pv (.lit (.bool false)))) 0 (.alt (.say (.bin .eql 3 (.pv (.sym 15)) (.pv (.lit (.int .i64 4))) (.pv (.lit (.bool true)))) 0 (.alt (.say (.bin .eql 2 (.pv (.sym 17)) (.pv (.sym 7)) (.pv (.lit (.bool true)))) 0 (.call ⟨7, [.agg [.pv (.sym 18), .pv (.sym 19), .pv (.sym 20), .pv (.sym 21), .pv (.sym 22)], .agg [.pv (.sym 10), .pv (.sym 11), .pv (.sym 12), .pv (.sym 13)]], [], .pv (.sym 23), []⟩ 1 (.code .ret [(4, .pv (.sym 23))] [.box 26 [.pv (.sym 1), .pv (.sym 2), .pv (.sym 3), .pv (.sym 4), .pv (.sym 5)], .box 29 [.pv (.sym 6), .pv (.sym 7), .pv (.sym 8), .pv (.sym 9)], .box 29 [.pv (.sym 10), .pv (.sym 11), .pv (.sym 12), .pv (.sym 13)]]))) (.say (.bin .eql 2 (.pv (.sym 17)) (.pv (.sym 7)) (.pv (.lit (.bool false)))) 0 (.say (.bin .add 3 (.pv (.sym 0)) (.pv (.lit (.int .i64 1))) (.pv (.sym 23))) 1 (.code .normal [(7, .pv (.sym 23)), (2, .ptr 0 0), (5, .ptr 1 0), (3, .ptr 2 0)] [.box 26 [.pv (.sym 1), .pv (.sym 2), .pv (.sym 3), .pv (.sym 4), .pv (.sym 5)], .box 29 [.pv (.sym 6), .pv (.sym 7), .pv (.sym 8), .pv (.sym 9)], .box 29 [.pv (.sym 10), .pv (.sym 11), .pv (.sym 12), .pv (.sym 13)]]))))) (.say (.bin .eql 3 (.pv (.sym 15)) (.pv (.lit (.int .i64 4))) (.pv (.lit (.bool false)))) 0 (.say (.bin .add 3 (.pv (.sym 0)) (.pv (.lit (.int .i64 1))) (.pv (.sym 23))) 1 (.code .normal [(7, .pv (.sym 23)), (2, .ptr 0 0), (5, .ptr 1 0), (3, .ptr 2 0)] [.box 26 [.pv (.sym 1), .pv (.sym 2), .pv (.sym 3), .pv (.sym 4), .pv (.sym 5)], .box 29 [.pv (.sym 6), .pv (.sym 7), .pv (.sym 8), .pv (.sym 9)], .box 29 [.pv (.sym 10), .pv (.sym 11), .pv (.sym 12), .pv (.sym 13)]]))))))) (.say (.bin .eql 3 (.pv (.sym 15)) (.pv (.sym 6)) (.pv (.lit (.bool false)))) 0 (.say (.bin .add 3 (.pv (.sym 0)) (.pv (.lit (.int .i64 1))) (.pv (.sym 23))) 1 (.code .normal [(7, .pv (.sym 23)), (2, .ptr 0 0), (5, .ptr 1 0), (3, .ptr 2 0)] [.box 26 [.pv (.sym 1), .pv (.sym 2), .pv (.sym 3), .pv (.sym 4), .pv (.sym 5)], .box 29 [.pv (.sym 6), .pv (.sym 7), .pv (.sym 8), .pv (.sym 9)], .box 29 [.pv (.sym 10), .pv (.sym 11), .pv (.sym 12), .pv (.sym 13)]])))))) (.say (.bin .lss 3 (.pv (.sym 0)) (.pv (.sym 14)) (.pv (.lit (.bool false)))) 0 (.code (.exit 0) [(2, .ptr 0 0), (3, .ptr 2 0)] [.box 26 [.pv (.sym 1), .pv (.sym 2), .pv (.sym 3), .pv (.sym 4), .pv (.sym 5)], .box 29 [.pv (.sym 6), .pv (.sym 7), .pv (.sym 8), .pv (.sym 9)], .box 29 [.pv (.sym 10), .pv (.sym 11), .pv (.sym 12), .pv (.sym 13)]])))
def E7b0a : Env := [(7, .pv (.sym 0)), (2, .ptr 0 0), (5, .ptr 1 0), (3, .ptr 2 0)]
def H7b0a : List AObj := [.box 26 [.pv (.sym 1), .pv (.sym 2), .pv (.sym 3), .pv (.sym 4), .pv (.sym 5)], .box 29 [.pv (.sym 6), .pv (.sym 7), .pv (.sym 8), .pv (.sym 9)], .box 29 [.pv (.sym 10), .pv (.sym 11), .pv (.sym 12), .pv (.sym 13)]]
set_option maxRecDepth 100000 in
theorem c7b0a : chk Tryz.prog (leafC Tryz.prog Tryz.f7 t7 (lb Tryz.f7 0) 3 E7b0a H7b0a) T7b0a 14 [] [] [] = true := by kernel_rfl
theorem L7b0a (x0 : PV) (x1 : PV) (x2 : PV) (x3 : PV) (x4 : PV) (x5 : PV) (x6 : PV) (x7 : PV) (x8 : PV) (x9 : PV) (x10 : PV) (x11 : PV) (x12 : PV) (x13 : PV) (hn : NSL [x0, x1, x2, x3, x4, x5, x6, x7, x8, x9, x10, x11, x12, x13]) (hh : TsH (nm [x0, x1, x2, x3, x4, x5, x6, x7, x8, x9, x10, x11, x12, x13]) H7b0a) {ex : AExit} {e' : Env} {h' : List AObj} (hd : Den Tryz.prog Tryz.f7 T7b0a [x0, x1, x2, x3, x4, x5, x6, x7, x8, x9, x10, x11, x12, x13] (.code ex e' h')) (R : Nat → PV) :
    CodeB R Tryz.prog Tryz.f7.ntmps (lb Tryz.f7 0) 3 [(7, .pv x0), (2, .ptr 0 0), (5, .ptr 1 0), (3, .ptr 2 0)] [.box 26 [.pv x1, .pv x2, .pv x3, .pv x4, .pv x5], .box 29 [.pv x6, .pv x7, .pv x8, .pv x9], .box 29 [.pv x10, .pv x11, .pv x12, .pv x13]] ex e' h' :=
  body_rule f7_loop0 mixed f7_tab0 (e := E7b0a) (h := H7b0a) (by kernel_rfl) c7b0a rfl hn (by simp [E7b0a]) hh hd R
/-! 8: cognate/trees.Vars -/
def t8 : FT where
  keep := []
  kb := fun
    | _ => []
  sd := fun
    | 6 => [(0, true), (1, true), (2, true), (3, true)]
    | _ => []
theorem f8_at : Tryz.prog.funcs[8]? = some Tryz.f8 := by kernel_rfl
theorem f8_body : Tryz.f8.body.isSome = true := by kernel_rfl
theorem f8_tab : tabOk t8.sd t8.sx (bodyOf Tryz.f8) = true := by kernel_rfl
-- paths: 2
def T8 : Tr := .alt (.call ⟨21, [.agg [.pv (.sym 0), .pv (.sym 1), .pv (.sym 2), .pv (.sym 3), .pv (.sym 4)], .pv (.rows []), .ptr 0 0, .ptr 1 0, .ptr 2 0], [.box 38 [.pv (.lit (.slice none 0 0))], .box 39 [.pv (.lit (.slice none 0 0))], .box 66 [.fn 21 [.ptr 0 0, .ptr 1 0, .ptr 2 0]]], .tup [], [.box 38 [.pv (.lit (.slice none 0 0))], .box 39 [.pv (.lit (.slice none 0 0))], .box 66 [.fn 21 [.ptr 0 0, .ptr 1 0, .ptr 2 0]]]⟩ 0 (.ret (.tup [.pv (.lit (.slice none 0 0)), .pv (.lit (.slice none 0 0))]) [])) (.call ⟨21, [.agg [.pv (.sym 0), .pv (.sym 1), .pv (.sym 2), .pv (.sym 3), .pv (.sym 4)], .pv (.rows []), .ptr 0 0, .ptr 1 0, .ptr 2 0], [.box 38 [.pv (.lit (.slice none 0 0))], .box 39 [.pv (.lit (.slice none 0 0))], .box 66 [.fn 21 [.ptr 0 0, .ptr 1 0, .ptr 2 0]]], .tup [], [.box 38 [.tsym 4 6], .box 39 [.tsym 3 5], .box 66 [.fn 21 [.ptr 0 0, .ptr 1 0, .ptr 2 0]], .tok 22 1 (symBase + 5), .tok 9 1 (symBase + 6)]⟩ 2 (.ret (.tup [.tsym 0 6, .tsym 1 5]) [.tok 9 1 (symBase + 6), .tok 22 1 (symBase + 5)]))
def A8 : List AV := [.agg [.pv (.sym 0), .pv (.sym 1), .pv (.sym 2), .pv (.sym 3), .pv (.sym 4)]]
def H8 : List AObj := []
set_option maxRecDepth 100000 in
theorem c8 : chk Tryz.prog (leafF Tryz.prog t8 8 A8 H8) T8 5 [] [] [] = true := by kernel_rfl
theorem F8 (x0 : PV) (x1 : PV) (x2 : PV) (x3 : PV) (x4 : PV) (hn : NSL [x0, x1, x2, x3, x4]) {v : AV} {h' : List AObj} (hd : Den Tryz.prog Tryz.f8 T8 [x0, x1, x2, x3, x4] (.ret v h')) :
    Sem Tryz.prog 8 [.agg [.pv x0, .pv x1, .pv x2, .pv x3, .pv x4]] [] v h' :=
  fun_rule f8_at f8_body mixed f8_tab (args := A8) (h := H8) (by kernel_rfl) c8 rfl hn (by simp [A8]) (by trivial) hd
/-! 9: cognate/cognateref27.Vars -/
def t9 : FT where
  keep := []
  kb := fun
    | 0 => [6, 2, 1, 5]
    | _ => []
  sd := fun
    | 9 => [(0, true), (1, true), (2, true), (3, true), (4, true), (5, true), (6, true), (7, true), (8, false), (9, false), (10, false), (11, false), (12, true)]
    | _ => []
theorem f9_at : Tryz.prog.funcs[9]? = some Tryz.f9 := by kernel_rfl
theorem f9_body : Tryz.f9.body.isSome = true := by kernel_rfl
theorem f9_tab : tabOk t9.sd t9.sx (bodyOf Tryz.f9) = true := by kernel_rfl
-- paths: 4
def T9 : Tr := .alt (.say (.bin .eql 3 (.pv (.sym 0)) (.pv (.lit (.int .i64 2))) (.pv (.lit (.bool true)))) 0 (.alt (.blk ⟨0, [(6, .pv (.lit (.int .i64 0))), (2, .ptr 0 0), (1, .pv (.sym 5)), (5, .trows 1 [[.sym 1, .sym 5]])], [.box 32 [.pv (.sym 0), .pv (.sym 1), .pv (.sym 2), .pv (.sym 3), .pv (.sym 4)], .tok 45 2 1], .normal, [(5, .trows 1 [[.sym 1, .sym 5]])], [.box 32 [.pv (.sym 0), .pv (.sym 1), .pv (.sym 2), .pv (.sym 3), .pv (.sym 4)], .tok 45 2 1]⟩ 0 (.ret (.trows 0 [[.sym 1, .sym 5]]) [.tok 45 2 1])) (.blk ⟨0, [(6, .pv (.lit (.int .i64 0))), (2, .ptr 0 0), (1, .pv (.sym 5)), (5, .trows 1 [[.sym 1, .sym 5]])], [.box 32 [.pv (.sym 0), .pv (.sym 1), .pv (.sym 2), .pv (.sym 3), .pv (.sym 4)], .tok 45 2 1], .normal, [(5, .tsym 2 6)], [.box 32 [.pv (.sym 0), .pv (.sym 1), .pv (.sym 2), .pv (.sym 3), .pv (.sym 4)], .dead, .tok 45 2 (symBase + 6)]⟩ 1 (.ret (.tsym 0 6) [.tok 45 2 (symBase + 6)])))) (.say (.bin .eql 3 (.pv (.sym 0)) (.pv (.lit (.int .i64 2))) (.pv (.lit (.bool false)))) 0 (.alt (.blk ⟨0, [(6, .pv (.lit (.int .i64 0))), (2, .ptr 0 0), (1, .pv (.sym 5)), (5, .pv (.lit (.slice none 0 0)))], [.box 32 [.pv (.sym 0), .pv (.sym 1), .pv (.sym 2), .pv (.sym 3), .pv (.sym 4)]], .normal, [(5, .pv (.lit (.slice none 0 0)))], [.box 32 [.pv (.sym 0), .pv (.sym 1), .pv (.sym 2), .pv (.sym 3), .pv (.sym 4)]]⟩ 0 (.ret (.pv (.lit (.slice none 0 0))) [])) (.blk ⟨0, [(6, .pv (.lit (.int .i64 0))), (2, .ptr 0 0), (1, .pv (.sym 5)), (5, .pv (.lit (.slice none 0 0)))], [.box 32 [.pv (.sym 0), .pv (.sym 1), .pv (.sym 2), .pv (.sym 3), .pv (.sym 4)]], .normal, [(5, .tsym 1 6)], [.box 32 [.pv (.sym 0), .pv (.sym 1), .pv (.sym 2), .pv (.sym 3), .pv (.sym 4)], .tok 45 2 (symBase + 6)]⟩ 1 (.ret (.tsym 0 6) [.tok 45 2 (symBase + 6)]))))
def A9 : List AV := [.agg [.pv (.sym 0), .pv (.sym 1), .pv (.sym 2), .pv (.sym 3), .pv (.sym 4)], .pv (.sym 5)]
def H9 : List AObj := []
set_option maxRecDepth 100000 in
theorem c9 : chk Tryz.prog (leafF Tryz.prog t9 9 A9 H9) T9 6 [] [] [] = true := by kernel_rfl
theorem F9 (x0 : PV) (x1 : PV) (x2 : PV) (x3 : PV) (x4 : PV) (x5 : PV) (hn : NSL [x0, x1, x2, x3, x4, x5]) {v : AV} {h' : List AObj} (hd : Den Tryz.prog Tryz.f9 T9 [x0, x1, x2, x3, x4, x5] (.ret v h')) :
    Sem Tryz.prog 9 [.agg [.pv x0, .pv x1, .pv x2, .pv x3, .pv x4], .pv x5] [] v h' :=
  fun_rule f9_at f9_body mixed f9_tab (args := A9) (h := H9) (by kernel_rfl) c9 rfl hn (by simp [A9]) (by trivial) hd
theorem f9_loop0 : isLoop1 (subs 0 (bodyOf Tryz.f9)) = true := by kernel_rfl
theorem f9_tab0 : tabOk t9.sd t9.sx (lb Tryz.f9 0) = true := by kernel_rfl
-- loop 0, objects before it: 2; paths: 5
def T9b0a : Tr := .say (.len 30 (.pv (.sym 6)) (.pv (.sym 8))) 1 (.alt (.say (.bin .lss 3 (.pv (.sym 0)) (.pv (.sym 8)) (.pv (.lit (.bool true)))) 0 (.alt (.say (.app 22 (.pv (.lit (.slice none 0 0))) (.pv (.sym 1)) 9) 1 (.say (.idx 30 (.pv (.sym 6)) (.pv (.sym 0)) (.cptr [.sym 10, .sym 11, .sym 12, .sym 13, .sym 14])) 5 (.say (.app 22 (.pv (.sym 9)) (.pv (.rows [[.sym 0]])) 15) 1 (.call ⟨9, [.agg [.pv (.sym 10), .pv (.sym 11), .pv (.sym 12), .pv (.sym 13), .pv (.sym 14)], .pv (.sym 15)], [], .pv (.sym 16), []⟩ 1 (.alt (.say (.app 42 (.pv (.sym 2)) (.pv (.sym 16)) 17) 1 (.say (.bin .add 3 (.pv (.sym 0)) (.pv (.lit (.int .i64 1))) (.pv (.sym 18))) 1 (.code .normal [(6, .pv (.sym 18)), (2, .ptr 0 0), (1, .pv (.sym 1)), (5, .tsym 2 17)] [.box 32 [.pv (.sym 3), .pv (.sym 4), .pv (.sym 5), .pv (.sym 6), .pv (.sym 7)], .dead, .tok 45 2 (symBase + 17)]))) (.say (.app0 42 (.pv (.sym 2)) (.pv (.sym 16))) 0 (.say (.bin .add 3 (.pv (.sym 0)) (.pv (.lit (.int .i64 1))) (.pv (.sym 17))) 1 (.code .normal [(6, .pv (.sym 17)), (2, .ptr 0 0), (1, .pv (.sym 1)), (5, .tsym 1 2)] [.box 32 [.pv (.sym 3), .pv (.sym 4), .pv (.sym 5), .pv (.sym 6), .pv (.sym 7)], .tok 45 2 (symBase + 2)])))))))) (.say (.app0 22 (.pv (.lit (.slice none 0 0))) (.pv (.sym 1))) 0 (.say (.idx 30 (.pv (.sym 6)) (.pv (.sym 0)) (.cptr [.sym 9, .sym 10, .sym 11, .sym 12, .sym 13])) 5 (.call ⟨9, [.agg [.pv (.sym 9), .pv (.sym 10), .pv (.sym 11), .pv (.sym 12), .pv (.sym 13)], .pv (.rows [[.sym 0]])], [], .pv (.sym 14), []⟩ 1 (.alt (.say (.app 42 (.pv (.sym 2)) (.pv (.sym 14)) 15) 1 (.say (.bin .add 3 (.pv (.sym 0)) (.pv (.lit (.int .i64 1))) (.pv (.sym 16))) 1 (.code .normal [(6, .pv (.sym 16)), (2, .ptr 0 0), (1, .pv (.sym 1)), (5, .tsym 2 15)] [.box 32 [.pv (.sym 3), .pv (.sym 4), .pv (.sym 5), .pv (.sym 6), .pv (.sym 7)], .dead, .tok 45 2 (symBase + 15)]))) (.say (.app0 42 (.pv (.sym 2)) (.pv (.sym 14))) 0 (.say (.bin .add 3 (.pv (.sym 0)) (.pv (.lit (.int .i64 1))) (.pv (.sym 15))) 1 (.code .normal [(6, .pv (.sym 15)), (2, .ptr 0 0), (1, .pv (.sym 1)), (5, .tsym 1 2)] [.box 32 [.pv (.sym 3), .pv (.sym 4), .pv (.sym 5), .pv (.sym 6), .pv (.sym 7)], .tok 45 2 (symBase + 2)]))))))))) (.say (.bin .lss 3 (.pv (.sym 0)) (.pv (.sym 8)) (.pv (.lit (.bool false)))) 0 (.code (.exit 0) [(5, .tsym 1 2)] [.box 32 [.pv (.sym 3), .pv (.sym 4), .pv (.sym 5), .pv (.sym 6), .pv (.sym 7)], .tok 45 2 (symBase + 2)])))
def E9b0a : Env := [(6, .pv (.sym 0)), (2, .ptr 0 0), (1, .pv (.sym 1)), (5, .tsym 1 2)]
def H9b0a : List AObj := [.box 32 [.pv (.sym 3), .pv (.sym 4), .pv (.sym 5), .pv (.sym 6), .pv (.sym 7)], .tok 45 2 (symBase + 2)]
set_option maxRecDepth 100000 in
theorem c9b0a : chk Tryz.prog (leafC Tryz.prog Tryz.f9 t9 (lb Tryz.f9 0) 2 E9b0a H9b0a) T9b0a 8 [] [] [] = true := by kernel_rfl
theorem L9b0a (x0 : PV) (x1 : PV) (x2 : List (List PV)) (x3 : PV) (x4 : PV) (x5 : PV) (x6 : PV) (x7 : PV) (hn : NSL [x0, x1, .rows x2, x3, x4, x5, x6, x7]) (hh : TsH (nm [x0, x1, .rows x2, x3, x4, x5, x6, x7]) H9b0a) {ex : AExit} {e' : Env} {h' : List AObj} (hd : Den Tryz.prog Tryz.f9 T9b0a [x0, x1, .rows x2, x3, x4, x5, x6, x7] (.code ex e' h')) (R : Nat → PV) :
    CodeB R Tryz.prog Tryz.f9.ntmps (lb Tryz.f9 0) 2 [(6, .pv x0), (2, .ptr 0 0), (1, .pv x1), (5, .trows 1 x2)] [.box 32 [.pv x3, .pv x4, .pv x5, .pv x6, .pv x7], .tok 45 2 x2.length] ex e' h' :=
  body_rule f9_loop0 mixed f9_tab0 (e := E9b0a) (h := H9b0a) (by kernel_rfl) c9b0a rfl hn (by simp [E9b0a]) hh hd R
-- loop 0, objects before it: 1; paths: 5
def T9b0b : Tr := .say (.len 30 (.pv (.sym 5)) (.pv (.sym 7))) 1 (.alt (.say (.bin .lss 3 (.pv (.sym 0)) (.pv (.sym 7)) (.pv (.lit (.bool true)))) 0 (.alt (.say (.app 22 (.pv (.lit (.slice none 0 0))) (.pv (.sym 1)) 8) 1 (.say (.idx 30 (.pv (.sym 5)) (.pv (.sym 0)) (.cptr [.sym 9, .sym 10, .sym 11, .sym 12, .sym 13])) 5 (.say (.app 22 (.pv (.sym 8)) (.pv (.rows [[.sym 0]])) 14) 1 (.call ⟨9, [.agg [.pv (.sym 9), .pv (.sym 10), .pv (.sym 11), .pv (.sym 12), .pv (.sym 13)], .pv (.sym 14)], [], .pv (.sym 15), []⟩ 1 (.alt (.say (.app 42 (.pv (.lit (.slice none 0 0))) (.pv (.sym 15)) 16) 1 (.say (.bin .add 3 (.pv (.sym 0)) (.pv (.lit (.int .i64 1))) (.pv (.sym 17))) 1 (.code .normal [(6, .pv (.sym 17)), (2, .ptr 0 0), (1, .pv (.sym 1)), (5, .tsym 1 16)] [.box 32 [.pv (.sym 2), .pv (.sym 3), .pv (.sym 4), .pv (.sym 5), .pv (.sym 6)], .tok 45 2 (symBase + 16)]))) (.say (.app0 42 (.pv (.lit (.slice none 0 0))) (.pv (.sym 15))) 0 (.say (.bin .add 3 (.pv (.sym 0)) (.pv (.lit (.int .i64 1))) (.pv (.sym 16))) 1 (.code .normal [(6, .pv (.sym 16)), (2, .ptr 0 0), (1, .pv (.sym 1)), (5, .pv (.lit (.slice none 0 0)))] [.box 32 [.pv (.sym 2), .pv (.sym 3), .pv (.sym 4), .pv (.sym 5), .pv (.sym 6)]])))))))) (.say (.app0 22 (.pv (.lit (.slice none 0 0))) (.pv (.sym 1))) 0 (.say (.idx 30 (.pv (.sym 5)) (.pv (.sym 0)) (.cptr [.sym 8, .sym 9, .sym 10, .sym 11, .sym 12])) 5 (.call ⟨9, [.agg [.pv (.sym 8), .pv (.sym 9), .pv (.sym 10), .pv (.sym 11), .pv (.sym 12)], .pv (.rows [[.sym 0]])], [], .pv (.sym 13), []⟩ 1 (.alt (.say (.app 42 (.pv (.lit (.slice none 0 0))) (.pv (.sym 13)) 14) 1 (.say (.bin .add 3 (.pv (.sym 0)) (.pv (.lit (.int .i64 1))) (.pv (.sym 15))) 1 (.code .normal [(6, .pv (.sym 15)), (2, .ptr 0 0), (1, .pv (.sym 1)), (5, .tsym 1 14)] [.box 32 [.pv (.sym 2), .pv (.sym 3), .pv (.sym 4), .pv (.sym 5), .pv (.sym 6)], .tok 45 2 (symBase + 14)]))) (.say (.app0 42 (.pv (.lit (.slice none 0 0))) (.pv (.sym 13))) 0 (.say (.bin .add 3 (.pv (.sym 0)) (.pv (.lit (.int .i64 1))) (.pv (.sym 14))) 1 (.code .normal [(6, .pv (.sym 14)), (2, .ptr 0 0), (1, .pv (.sym 1)), (5, .pv (.lit (.slice none 0 0)))] [.box 32 [.pv (.sym 2), .pv (.sym 3), .pv (.sym 4), .pv (.sym 5), .pv (.sym 6)]]))))))))) (.say (.bin .lss 3 (.pv (.sym 0)) (.pv (.sym 7)) (.pv (.lit (.bool false)))) 0 (.code (.exit 0) [(5, .pv (.lit (.slice none 0 0)))] [.box 32 [.pv (.sym 2), .pv (.sym 3), .pv (.sym 4), .pv (.sym 5), .pv (.sym 6)]])))
def E9b0b : Env := [(6, .pv (.sym 0)), (2, .ptr 0 0), (1, .pv (.sym 1)), (5, .pv (.lit (.slice none 0 0)))]
def H9b0b : List AObj := [.box 32 [.pv (.sym 2), .pv (.sym 3), .pv (.sym 4), .pv (.sym 5), .pv (.sym 6)]]
set_option maxRecDepth 100000 in
theorem c9b0b : chk Tryz.prog (leafC Tryz.prog Tryz.f9 t9 (lb Tryz.f9 0) 1 E9b0b H9b0b) T9b0b 7 [] [] [] = true := by kernel_rfl
theorem L9b0b (x0 : PV) (x1 : PV) (x2 : PV) (x3 : PV) (x4 : PV) (x5 : PV) (x6 : PV) (hn : NSL [x0, x1, x2, x3, x4, x5, x6]) (hh : TsH (nm [x0, x1, x2, x3, x4, x5, x6]) H9b0b) {ex : AExit} {e' : Env} {h' : List AObj} (hd : Den Tryz.prog Tryz.f9 T9b0b [x0, x1, x2, x3, x4, x5, x6] (.code ex e' h')) (R : Nat → PV) :
    CodeB R Tryz.prog Tryz.f9.ntmps (lb Tryz.f9 0) 1 [(6, .pv x0), (2, .ptr 0 0), (1, .pv x1), (5, .pv (.lit (.slice none 0 0)))] [.box 32 [.pv x2, .pv x3, .pv x4, .pv x5, .pv x6]] ex e' h' :=
  body_rule f9_loop0 mixed f9_tab0 (e := E9b0b) (h := H9b0b) (by kernel_rfl) c9b0b rfl hn (by simp [E9b0b]) hh hd R
-- loop 0, objects before it: 2; paths: 5
def T9b0c : Tr := .say (.len 30 (.pv (.sym 6)) (.pv (.sym 8))) 1 (.alt (.say (.bin .lss 3 (.pv (.sym 0)) (.pv (.sym 8)) (.pv (.lit (.bool true)))) 0 (.alt (.say (.app 22 (.pv (.lit (.slice none 0 0))) (.pv (.sym 1)) 9) 1 (.say (.idx 30 (.pv (.sym 6)) (.pv (.sym 0)) (.cptr [.sym 10, .sym 11, .sym 12, .sym 13, .sym 14])) 5 (.say (.app 22 (.pv (.sym 9)) (.pv (.rows [[.sym 0]])) 15) 1 (.call ⟨9, [.agg [.pv (.sym 10), .pv (.sym 11), .pv (.sym 12), .pv (.sym 13), .pv (.sym 14)], .pv (.sym 15)], [], .pv (.sym 16), []⟩ 1 (.alt (.say (.app 42 (.pv (.sym 2)) (.pv (.sym 16)) 17) 1 (.say (.bin .add 3 (.pv (.sym 0)) (.pv (.lit (.int .i64 1))) (.pv (.sym 18))) 1 (.code .normal [(6, .pv (.sym 18)), (2, .ptr 0 0), (1, .pv (.sym 1)), (5, .tsym 2 17)] [.box 32 [.pv (.sym 3), .pv (.sym 4), .pv (.sym 5), .pv (.sym 6), .pv (.sym 7)], .dead, .tok 45 2 (symBase + 17)]))) (.say (.app0 42 (.pv (.sym 2)) (.pv (.sym 16))) 0 (.say (.bin .add 3 (.pv (.sym 0)) (.pv (.lit (.int .i64 1))) (.pv (.sym 17))) 1 (.code .normal [(6, .pv (.sym 17)), (2, .ptr 0 0), (1, .pv (.sym 1)), (5, .tsym 2 2)] [.box 32 [.pv (.sym 3), .pv (.sym 4), .pv (.sym 5), .pv (.sym 6), .pv (.sym 7)], .dead, .tok 45 2 (symBase + 2)])))))))) (.say (.app0 22 (.pv (.lit (.slice none 0 0))) (.pv (.sym 1))) 0 (.say (.idx 30 (.pv (.sym 6)) (.pv (.sym 0)) (.cptr [.sym 9, .sym 10, .sym 11, .sym 12, .sym 13])) 5 (.call ⟨9, [.agg [.pv (.sym 9), .pv (.sym 10), .pv (.sym 11), .pv (.sym 12), .pv (.sym 13)], .pv (.rows [[.sym 0]])], [], .pv (.sym 14), []⟩ 1 (.alt (.say (.app 42 (.pv (.sym 2)) (.pv (.sym 14)) 15) 1 (.say (.bin .add 3 (.pv (.sym 0)) (.pv (.lit (.int .i64 1))) (.pv (.sym 16))) 1 (.code .normal [(6, .pv (.sym 16)), (2, .ptr 0 0), (1, .pv (.sym 1)), (5, .tsym 2 15)] [.box 32 [.pv (.sym 3), .pv (.sym 4), .pv (.sym 5), .pv (.sym 6), .pv (.sym 7)], .dead, .tok 45 2 (symBase + 15)]))) (.say (.app0 42 (.pv (.sym 2)) (.pv (.sym 14))) 0 (.say (.bin .add 3 (.pv (.sym 0)) (.pv (.lit (.int .i64 1))) (.pv (.sym 15))) 1 (.code .normal [(6, .pv (.sym 15)), (2, .ptr 0 0), (1, .pv (.sym 1)), (5, .tsym 2 2)] [.box 32 [.pv (.sym 3), .pv (.sym 4), .pv (.sym 5), .pv (.sym 6), .pv (.sym 7)], .dead, .tok 45 2 (symBase + 2)]))))))))) (.say (.bin .lss 3 (.pv (.sym 0)) (.pv (.sym 8)) (.pv (.lit (.bool false)))) 0 (.code (.exit 0) [(5, .tsym 2 2)] [.box 32 [.pv (.sym 3), .pv (.sym 4), .pv (.sym 5), .pv (.sym 6), .pv (.sym 7)], .dead, .tok 45 2 (symBase + 2)])))
def E9b0c : Env := [(6, .pv (.sym 0)), (2, .ptr 0 0), (1, .pv (.sym 1)), (5, .tsym 2 2)]
def H9b0c : List AObj := [.box 32 [.pv (.sym 3), .pv (.sym 4), .pv (.sym 5), .pv (.sym 6), .pv (.sym 7)], .dead, .tok 45 2 (symBase + 2)]
set_option maxRecDepth 100000 in
theorem c9b0c : chk Tryz.prog (leafC Tryz.prog Tryz.f9 t9 (lb Tryz.f9 0) 2 E9b0c H9b0c) T9b0c 8 [] [] [] = true := by kernel_rfl
theorem L9b0c (x0 : PV) (x1 : PV) (x2 : List (List PV)) (x3 : PV) (x4 : PV) (x5 : PV) (x6 : PV) (x7 : PV) (hn : NSL [x0, x1, .rows x2, x3, x4, x5, x6, x7]) (hh : TsH (nm [x0, x1, .rows x2, x3, x4, x5, x6, x7]) H9b0c) {ex : AExit} {e' : Env} {h' : List AObj} (hd : Den Tryz.prog Tryz.f9 T9b0c [x0, x1, .rows x2, x3, x4, x5, x6, x7] (.code ex e' h')) (R : Nat → PV) :
    CodeB R Tryz.prog Tryz.f9.ntmps (lb Tryz.f9 0) 2 [(6, .pv x0), (2, .ptr 0 0), (1, .pv x1), (5, .trows 2 x2)] [.box 32 [.pv x3, .pv x4, .pv x5, .pv x6, .pv x7], .dead, .tok 45 2 x2.length] ex e' h' :=
  body_rule f9_loop0 mixed f9_tab0 (e := E9b0c) (h := H9b0c) (by kernel_rfl) c9b0c rfl hn (by simp [E9b0c]) hh hd R
-- loop 0, objects before it: 1; paths: 5
def T9b0d : Tr := .say (.len 30 (.pv (.sym 6)) (.pv (.sym 8))) 1 (.alt (.say (.bin .lss 3 (.pv (.sym 0)) (.pv (.sym 8)) (.pv (.lit (.bool true)))) 0 (.alt (.say (.app 22 (.pv (.lit (.slice none 0 0))) (.pv (.sym 1)) 9) 1 (.say (.idx 30 (.pv (.sym 6)) (.pv (.sym 0)) (.cptr [.sym 10, .sym 11, .sym 12, .sym 13, .sym 14])) 5 (.say (.app 22 (.pv (.sym 9)) (.pv (.rows [[.sym 0]])) 15) 1 (.call ⟨9, [.agg [.pv (.sym 10), .pv (.sym 11), .pv (.sym 12), .pv (.sym 13), .pv (.sym 14)], .pv (.sym 15)], [], .pv (.sym 16), []⟩ 1 (.alt (.say (.app 42 (.pv (.sym 2)) (.pv (.sym 16)) 17) 1 (.say (.bin .add 3 (.pv (.sym 0)) (.pv (.lit (.int .i64 1))) (.pv (.sym 18))) 1 (.code .normal [(6, .pv (.sym 18)), (2, .ptr 0 0), (1, .pv (.sym 1)), (5, .tsym 1 17)] [.box 32 [.pv (.sym 3), .pv (.sym 4), .pv (.sym 5), .pv (.sym 6), .pv (.sym 7)], .tok 45 2 (symBase + 17)]))) (.say (.app0 42 (.pv (.sym 2)) (.pv (.sym 16))) 0 (.say (.bin .add 3 (.pv (.sym 0)) (.pv (.lit (.int .i64 1))) (.pv (.sym 17))) 1 (.code .normal [(6, .pv (.sym 17)), (2, .ptr 0 0), (1, .pv (.sym 1)), (5, .tsym 1 2)] [.box 32 [.pv (.sym 3), .pv (.sym 4), .pv (.sym 5), .pv (.sym 6), .pv (.sym 7)], .tok 45 2 (symBase + 2)])))))))) (.say (.app0 22 (.pv (.lit (.slice none 0 0))) (.pv (.sym 1))) 0 (.say (.idx 30 (.pv (.sym 6)) (.pv (.sym 0)) (.cptr [.sym 9, .sym 10, .sym 11, .sym 12, .sym 13])) 5 (.call ⟨9, [.agg [.pv (.sym 9), .pv (.sym 10), .pv (.sym 11), .pv (.sym 12), .pv (.sym 13)], .pv (.rows [[.sym 0]])], [], .pv (.sym 14), []⟩ 1 (.alt (.say (.app 42 (.pv (.sym 2)) (.pv (.sym 14)) 15) 1 (.say (.bin .add 3 (.pv (.sym 0)) (.pv (.lit (.int .i64 1))) (.pv (.sym 16))) 1 (.code .normal [(6, .pv (.sym 16)), (2, .ptr 0 0), (1, .pv (.sym 1)), (5, .tsym 1 15)] [.box 32 [.pv (.sym 3), .pv (.sym 4), .pv (.sym 5), .pv (.sym 6), .pv (.sym 7)], .tok 45 2 (symBase + 15)]))) (.say (.app0 42 (.pv (.sym 2)) (.pv (.sym 14))) 0 (.say (.bin .add 3 (.pv (.sym 0)) (.pv (.lit (.int .i64 1))) (.pv (.sym 15))) 1 (.code .normal [(6, .pv (.sym 15)), (2, .ptr 0 0), (1, .pv (.sym 1)), (5, .tsym 1 2)] [.box 32 [.pv (.sym 3), .pv (.sym 4), .pv (.sym 5), .pv (.sym 6), .pv (.sym 7)], .tok 45 2 (symBase + 2)]))))))))) (.say (.bin .lss 3 (.pv (.sym 0)) (.pv (.sym 8)) (.pv (.lit (.bool false)))) 0 (.code (.exit 0) [(5, .tsym 1 2)] [.box 32 [.pv (.sym 3), .pv (.sym 4), .pv (.sym 5), .pv (.sym 6), .pv (.sym 7)], .tok 45 2 (symBase + 2)])))
def E9b0d : Env := [(6, .pv (.sym 0)), (2, .ptr 0 0), (1, .pv (.sym 1)), (5, .tsym 1 2)]
def H9b0d : List AObj := [.box 32 [.pv (.sym 3), .pv (.sym 4), .pv (.sym 5), .pv (.sym 6), .pv (.sym 7)], .tok 45 2 (symBase + 2)]
set_option maxRecDepth 100000 in
theorem c9b0d : chk Tryz.prog (leafC Tryz.prog Tryz.f9 t9 (lb Tryz.f9 0) 1 E9b0d H9b0d) T9b0d 8 [] [] [] = true := by kernel_rfl
theorem L9b0d (x0 : PV) (x1 : PV) (x2 : List (List PV)) (x3 : PV) (x4 : PV) (x5 : PV) (x6 : PV) (x7 : PV) (hn : NSL [x0, x1, .rows x2, x3, x4, x5, x6, x7]) (hh : TsH (nm [x0, x1, .rows x2, x3, x4, x5, x6, x7]) H9b0d) {ex : AExit} {e' : Env} {h' : List AObj} (hd : Den Tryz.prog Tryz.f9 T9b0d [x0, x1, .rows x2, x3, x4, x5, x6, x7] (.code ex e' h')) (R : Nat → PV) :
    CodeB R Tryz.prog Tryz.f9.ntmps (lb Tryz.f9 0) 1 [(6, .pv x0), (2, .ptr 0 0), (1, .pv x1), (5, .trows 1 x2)] [.box 32 [.pv x3, .pv x4, .pv x5, .pv x6, .pv x7], .tok 45 2 x2.length] ex e' h' :=
  body_rule f9_loop0 mixed f9_tab0 (e := E9b0d) (h := H9b0d) (by kernel_rfl) c9b0d rfl hn (by simp [E9b0d]) hh hd R
/-! 10: cognate/cognatelaw27.ints -/
def t10 : FT where
  keep := []
  kb := fun
    | 0 => [13, 12, 0, 1]
    | _ => []
  sd := fun
    | 6 => [(0, true), (1, true), (2, true), (3, true), (4, true), (5, true), (6, true), (7, true), (8, true)]
    | _ => []
theorem f10_at : Tryz.prog.funcs[10]? = some Tryz.f10 := by kernel_rfl
theorem f10_body : Tryz.f10.body.isSome = true := by kernel_rfl
theorem f10_tab : tabOk t10.sd t10.sx (bodyOf Tryz.f10) = true := by kernel_rfl
-- paths: 4
def T10 : Tr := .say (.len 22 (.pv (.sym 0)) (.pv (.sym 2))) 1 (.say (.len 22 (.pv (.sym 1)) (.pv (.sym 3))) 1 (.alt (.say (.bin .neq 3 (.pv (.sym 2)) (.pv (.sym 3)) (.pv (.lit (.bool true)))) 0 (.ret (.pv (.lit (.bool false))) [])) (.say (.bin .neq 3 (.pv (.sym 2)) (.pv (.sym 3)) (.pv (.lit (.bool false)))) 0 (.alt (.blk ⟨0, [(13, .pv (.lit (.int .i64 0))), (12, .pv (.sym 2)), (0, .pv (.sym 0)), (1, .pv (.sym 1))], [], .normal, [], []⟩ 0 (.ret (.pv (.lit (.bool true))) [])) (.alt (.blk ⟨0, [(13, .pv (.lit (.int .i64 0))), (12, .pv (.sym 2)), (0, .pv (.sym 0)), (1, .pv (.sym 1))], [], .ret, [(4, .pv (.lit (.bool true)))], []⟩ 0 (.ret (.pv (.lit (.bool true))) [])) (.blk ⟨0, [(13, .pv (.lit (.int .i64 0))), (12, .pv (.sym 2)), (0, .pv (.sym 0)), (1, .pv (.sym 1))], [], .ret, [(4, .pv (.lit (.bool false)))], []⟩ 0 (.ret (.pv (.lit (.bool false))) [])))))))
def A10 : List AV := [.pv (.sym 0), .pv (.sym 1)]
def H10 : List AObj := []
set_option maxRecDepth 100000 in
theorem c10 : chk Tryz.prog (leafF Tryz.prog t10 10 A10 H10) T10 2 [] [] [] = true := by kernel_rfl
theorem F10 (x0 : PV) (x1 : PV) (hn : NSL [x0, x1]) {v : AV} {h' : List AObj} (hd : Den Tryz.prog Tryz.f10 T10 [x0, x1] (.ret v h')) :
    Sem Tryz.prog 10 [.pv x0, .pv x1] [] v h' :=
  fun_rule f10_at f10_body mixed f10_tab (args := A10) (h := H10) (by kernel_rfl) c10 rfl hn (by simp [A10]) (by trivial) hd
theorem f10_loop0 : isLoop1 (subs 0 (bodyOf Tryz.f10)) = true := by kernel_rfl
theorem f10_tab0 : tabOk t10.sd t10.sx (lb Tryz.f10 0) = true := by kernel_rfl
-- loop 0, objects before it: 0; paths: 3
def T10b0a : Tr := .alt (.say (.bin .lss 3 (.pv (.sym 0)) (.pv (.sym 1)) (.pv (.lit (.bool true)))) 0 (.say (.idx 22 (.pv (.sym 2)) (.pv (.sym 0)) (.cptr [.sym 4])) 1 (.say (.idx 22 (.pv (.sym 3)) (.pv (.sym 0)) (.cptr [.sym 5])) 1 (.alt (.say (.bin .neq 3 (.pv (.sym 4)) (.pv (.sym 5)) (.pv (.lit (.bool true)))) 0 (.code .ret [(4, .pv (.lit (.bool false)))] [])) (.say (.bin .neq 3 (.pv (.sym 4)) (.pv (.sym 5)) (.pv (.lit (.bool false)))) 0 (.say (.bin .add 3 (.pv (.sym 0)) (.pv (.lit (.int .i64 1))) (.pv (.sym 6))) 1 (.code .normal [(13, .pv (.sym 6)), (12, .pv (.sym 1)), (0, .pv (.sym 2)), (1, .pv (.sym 3))] []))))))) (.say (.bin .lss 3 (.pv (.sym 0)) (.pv (.sym 1)) (.pv (.lit (.bool false)))) 0 (.code (.exit 0) [] []))
def E10b0a : Env := [(13, .pv (.sym 0)), (12, .pv (.sym 1)), (0, .pv (.sym 2)), (1, .pv (.sym 3))]
def H10b0a : List AObj := []
set_option maxRecDepth 100000 in
theorem c10b0a : chk Tryz.prog (leafC Tryz.prog Tryz.f10 t10 (lb Tryz.f10 0) 0 E10b0a H10b0a) T10b0a 4 [] [] [] = true := by kernel_rfl
theorem L10b0a (x0 : PV) (x1 : PV) (x2 : PV) (x3 : PV) (hn : NSL [x0, x1, x2, x3]) {ex : AExit} {e' : Env} {h' : List AObj} (hd : Den Tryz.prog Tryz.f10 T10b0a [x0, x1, x2, x3] (.code ex e' h')) (R : Nat → PV) :
    CodeB R Tryz.prog Tryz.f10.ntmps (lb Tryz.f10 0) 0 [(13, .pv x0), (12, .pv x1), (0, .pv x2), (1, .pv x3)] [] ex e' h' :=
  body_rule f10_loop0 mixed f10_tab0 (e := E10b0a) (h := H10b0a) (by kernel_rfl) c10b0a rfl hn (by simp [E10b0a]) (by trivial) hd R
/-! 11: cognate/trees.Same -/
def t11 : FT where
  keep := []
  kb := fun
    | _ => []
  sd := fun
    | _ => []
theorem f11_at : Tryz.prog.funcs[11]? = some Tryz.f11 := by kernel_rfl
theorem f11_body : Tryz.f11.body.isSome = true := by kernel_rfl
theorem f11_tab : tabOk t11.sd t11.sx (bodyOf Tryz.f11) = true := by kernel_rfl
-- paths: 6
def T11 : Tr := .alt (.say (.bin .eql 3 (.pv (.sym 0)) (.pv (.sym 5)) (.pv (.lit (.bool true)))) 0 (.alt (.say (.bin .eql 3 (.pv (.sym 1)) (.pv (.sym 6)) (.pv (.lit (.bool true)))) 0 (.alt (.call ⟨24, [.pv (.sym 2), .pv (.sym 7)], [], .pv (.lit (.bool true)), []⟩ 0 (.alt (.call ⟨25, [.pv (.sym 3), .pv (.sym 8), .fn 23 []], [], .pv (.lit (.bool true)), []⟩ 0 (.alt (.call ⟨26, [.pv (.sym 4), .pv (.sym 9), .fn 11 []], [], .pv (.lit (.bool true)), []⟩ 0 (.ret (.pv (.lit (.bool true))) [])) (.call ⟨26, [.pv (.sym 4), .pv (.sym 9), .fn 11 []], [], .pv (.lit (.bool false)), []⟩ 0 (.ret (.pv (.lit (.bool false))) [])))) (.call ⟨25, [.pv (.sym 3), .pv (.sym 8), .fn 23 []], [], .pv (.lit (.bool false)), []⟩ 0 (.ret (.pv (.lit (.bool false))) [])))) (.call ⟨24, [.pv (.sym 2), .pv (.sym 7)], [], .pv (.lit (.bool false)), []⟩ 0 (.ret (.pv (.lit (.bool false))) [])))) (.say (.bin .eql 3 (.pv (.sym 1)) (.pv (.sym 6)) (.pv (.lit (.bool false)))) 0 (.ret (.pv (.lit (.bool false))) [])))) (.say (.bin .eql 3 (.pv (.sym 0)) (.pv (.sym 5)) (.pv (.lit (.bool false)))) 0 (.ret (.pv (.lit (.bool false))) []))
def A11 : List AV := [.agg [.pv (.sym 0), .pv (.sym 1), .pv (.sym 2), .pv (.sym 3), .pv (.sym 4)], .agg [.pv (.sym 5), .pv (.sym 6), .pv (.sym 7), .pv (.sym 8), .pv (.sym 9)]]
def H11 : List AObj := []
set_option maxRecDepth 100000 in
theorem c11 : chk Tryz.prog (leafF Tryz.prog t11 11 A11 H11) T11 10 [] [] [] = true := by kernel_rfl
theorem F11 (x0 : PV) (x1 : PV) (x2 : PV) (x3 : PV) (x4 : PV) (x5 : PV) (x6 : PV) (x7 : PV) (x8 : PV) (x9 : PV) (hn : NSL [x0, x1, x2, x3, x4, x5, x6, x7, x8, x9]) {v : AV} {h' : List AObj} (hd : Den Tryz.prog Tryz.f11 T11 [x0, x1, x2, x3, x4, x5, x6, x7, x8, x9] (.ret v h')) :
    Sem Tryz.prog 11 [.agg [.pv x0, .pv x1, .pv x2, .pv x3, .pv x4], .agg [.pv x5, .pv x6, .pv x7, .pv x8, .pv x9]] [] v h' :=
  fun_rule f11_at f11_body mixed f11_tab (args := A11) (h := H11) (by kernel_rfl) c11 rfl hn (by simp [A11]) (by trivial) hd
/-! 12: cognate/cognateref27.Same -/
def t12 : FT where
  keep := []
  kb := fun
    | 0 => [5, 2, 3]
    | 2 => [8, 2, 3]
    | _ => []
  sd := fun
    | 13 => [(0, true), (1, true), (2, true), (3, true), (4, true), (5, true), (6, true), (7, true), (8, true), (9, true), (10, false), (11, true)]
    | _ => []
theorem f12_at : Tryz.prog.funcs[12]? = some Tryz.f12 := by kernel_rfl
theorem f12_body : Tryz.f12.body.isSome = true := by kernel_rfl
theorem f12_tab : tabOk t12.sd t12.sx (bodyOf Tryz.f12) = true := by kernel_rfl
-- paths: 10
def T12 : Tr := .alt (.say (.bin .neq 3 (.pv (.sym 0)) (.pv (.sym 5)) (.pv (.lit (.bool true)))) 0 (.ret (.pv (.lit (.bool false))) [])) (.say (.bin .neq 3 (.pv (.sym 0)) (.pv (.sym 5)) (.pv (.lit (.bool false)))) 0 (.alt (.say (.bin .neq 3 (.pv (.sym 1)) (.pv (.sym 6)) (.pv (.lit (.bool true)))) 0 (.ret (.pv (.lit (.bool false))) [])) (.say (.bin .neq 3 (.pv (.sym 1)) (.pv (.sym 6)) (.pv (.lit (.bool false)))) 0 (.alt (.call ⟨27, [.pv (.sym 2), .pv (.sym 7)], [], .pv (.lit (.bool true)), []⟩ 0 (.say (.len 23 (.pv (.sym 3)) (.pv (.sym 10))) 1 (.say (.len 23 (.pv (.sym 8)) (.pv (.sym 11))) 1 (.alt (.say (.bin .neq 3 (.pv (.sym 10)) (.pv (.sym 11)) (.pv (.lit (.bool true)))) 0 (.ret (.pv (.lit (.bool false))) [])) (.say (.bin .neq 3 (.pv (.sym 10)) (.pv (.sym 11)) (.pv (.lit (.bool false)))) 0 (.say (.len 24 (.pv (.sym 4)) (.pv (.sym 12))) 1 (.say (.len 24 (.pv (.sym 9)) (.pv (.sym 13))) 1 (.alt (.say (.bin .neq 3 (.pv (.sym 12)) (.pv (.sym 13)) (.pv (.lit (.bool true)))) 0 (.ret (.pv (.lit (.bool false))) [])) (.say (.bin .neq 3 (.pv (.sym 12)) (.pv (.sym 13)) (.pv (.lit (.bool false)))) 0 (.alt (.blk ⟨0, [(5, .pv (.lit (.int .i64 0))), (2, .ptr 0 0), (3, .ptr 1 0)], [.box 26 [.pv (.sym 0), .pv (.sym 1), .pv (.sym 2), .pv (.sym 3), .pv (.sym 4)], .box 26 [.pv (.sym 5), .pv (.sym 6), .pv (.sym 7), .pv (.sym 8), .pv (.sym 9)]], .normal, [(2, .ptr 0 0), (3, .ptr 1 0)], [.box 26 [.pv (.sym 0), .pv (.sym 1), .pv (.sym 2), .pv (.sym 3), .pv (.sym 4)], .box 26 [.pv (.sym 5), .pv (.sym 6), .pv (.sym 7), .pv (.sym 8), .pv (.sym 9)]]⟩ 0 (.alt (.blk ⟨2, [(8, .pv (.lit (.int .i64 0))), (2, .ptr 0 0), (3, .ptr 1 0)], [.box 26 [.pv (.sym 0), .pv (.sym 1), .pv (.sym 2), .pv (.sym 3), .pv (.sym 4)], .box 26 [.pv (.sym 5), .pv (.sym 6), .pv (.sym 7), .pv (.sym 8), .pv (.sym 9)]], .normal, [], [.box 26 [.pv (.sym 0), .pv (.sym 1), .pv (.sym 2), .pv (.sym 3), .pv (.sym 4)], .box 26 [.pv (.sym 5), .pv (.sym 6), .pv (.sym 7), .pv (.sym 8), .pv (.sym 9)]]⟩ 0 (.ret (.pv (.lit (.bool true))) [])) (.alt (.blk ⟨2, [(8, .pv (.lit (.int .i64 0))), (2, .ptr 0 0), (3, .ptr 1 0)], [.box 26 [.pv (.sym 0), .pv (.sym 1), .pv (.sym 2), .pv (.sym 3), .pv (.sym 4)], .box 26 [.pv (.sym 5), .pv (.sym 6), .pv (.sym 7), .pv (.sym 8), .pv (.sym 9)]], .ret, [(4, .pv (.lit (.bool true)))], [.box 26 [.pv (.sym 0), .pv (.sym 1), .pv (.sym 2), .pv (.sym 3), .pv (.sym 4)], .box 26 [.pv (.sym 5), .pv (.sym 6), .pv (.sym 7), .pv (.sym 8), .pv (.sym 9)]]⟩ 0 (.ret (.pv (.lit (.bool true))) [])) (.blk ⟨2, [(8, .pv (.lit (.int .i64 0))), (2, .ptr 0 0), (3, .ptr 1 0)], [.box 26 [.pv (.sym 0), .pv (.sym 1), .pv (.sym 2), .pv (.sym 3), .pv (.sym 4)], .box 26 [.pv (.sym 5), .pv (.sym 6), .pv (.sym 7), .pv (.sym 8), .pv (.sym 9)]], .ret, [(4, .pv (.lit (.bool false)))], [.box 26 [.pv (.sym 0), .pv (.sym 1), .pv (.sym 2), .pv (.sym 3), .pv (.sym 4)], .box 26 [.pv (.sym 5), .pv (.sym 6), .pv (.sym 7), .pv (.sym 8), .pv (.sym 9)]]⟩ 0 (.ret (.pv (.lit (.bool false))) []))))) (.alt (.blk ⟨0, [(5, .pv (.lit (.int .i64 0))), (2, .ptr 0 0), (3, .ptr 1 0)], [.box 26 [.pv (.sym 0), .pv (.sym 1), .pv (.sym 2), .pv (.sym 3), .pv (.sym 4)], .box 26 [.pv (.sym 5), .pv (.sym 6), .pv (.sym 7), .pv (.sym 8), .pv (.sym 9)]], .ret, [(4, .pv (.lit (.bool true)))], [.box 26 [.pv (.sym 0), .pv (.sym 1), .pv (.sym 2), .pv (.sym 3), .pv (.sym 4)], .box 26 [.pv (.sym 5), .pv (.sym 6), .pv (.sym 7), .pv (.sym 8), .pv (.sym 9)]]⟩ 0 (.ret (.pv (.lit (.bool true))) [])) (.blk ⟨0, [(5, .pv (.lit (.int .i64 0))), (2, .ptr 0 0), (3, .ptr 1 0)], [.box 26 [.pv (.sym 0), .pv (.sym 1), .pv (.sym 2), .pv (.sym 3), .pv (.sym 4)], .box 26 [.pv (.sym 5), .pv (.sym 6), .pv (.sym 7), .pv (.sym 8), .pv (.sym 9)]], .ret, [(4, .pv (.lit (.bool false)))], [.box 26 [.pv (.sym 0), .pv (.sym 1), .pv (.sym 2), .pv (.sym 3), .pv (.sym 4)], .box 26 [.pv (.sym 5), .pv (.sym 6), .pv (.sym 7), .pv (.sym 8), .pv (.sym 9)]]⟩ 0 (.ret (.pv (.lit (.bool false))) []))))))))))))) (.call ⟨27, [.pv (.sym 2), .pv (.sym 7)], [], .pv (.lit (.bool false)), []⟩ 0 (.ret (.pv (.lit (.bool false))) []))))))
def A12 : List AV := [.agg [.pv (.sym 0), .pv (.sym 1), .pv (.sym 2), .pv (.sym 3), .pv (.sym 4)], .agg [.pv (.sym 5), .pv (.sym 6), .pv (.sym 7), .pv (.sym 8), .pv (.sym 9)]]
def H12 : List AObj := []
set_option maxRecDepth 100000 in
theorem c12 : chk Tryz.prog (leafF Tryz.prog t12 12 A12 H12) T12 10 [] [] [] = true := by kernel_rfl
theorem F12 (x0 : PV) (x1 : PV) (x2 : PV) (x3 : PV) (x4 : PV) (x5 : PV) (x6 : PV) (x7 : PV) (x8 : PV) (x9 : PV) (hn : NSL [x0, x1, x2, x3, x4, x5, x6, x7, x8, x9]) {v : AV} {h' : List AObj} (hd : Den Tryz.prog Tryz.f12 T12 [x0, x1, x2, x3, x4, x5, x6, x7, x8, x9] (.ret v h')) :
    Sem Tryz.prog 12 [.agg [.pv x0, .pv x1, .pv x2, .pv x3, .pv x4], .agg [.pv x5, .pv x6, .pv x7, .pv x8, .pv x9]] [] v h' :=
  fun_rule f12_at f12_body mixed f12_tab (args := A12) (h := H12) (by kernel_rfl) c12 rfl hn (by simp [A12]) (by trivial) hd
theorem f12_loop0 : isLoop1 (subs 0 (bodyOf Tryz.f12)) = true := by kernel_rfl
theorem f12_tab0 : tabOk t12.sd t12.sx (lb Tryz.f12 0) = true := by kernel_rfl
-- loop 0, objects before it: 2; paths: 6
def T12b0a : Tr := .say (.len 23 (.pv (.sym 4)) (.pv (.sym 11))) 1 (.alt (.say (.bin .lss 3 (.pv (.sym 0)) (.pv (.sym 11)) (.pv (.lit (.bool true)))) 0 (.say (.idx 23 (.pv (.sym 4)) (.pv (.sym 0)) (.cptr [.sym 12, .sym 13, .sym 14, .sym 15, .sym 16, .sym 17, .sym 18, .sym 19])) 8 (.say (.idx 23 (.pv (.sym 9)) (.pv (.sym 0)) (.cptr [.sym 20, .sym 21, .sym 22, .sym 23, .sym 24, .sym 25, .sym 26, .sym 27])) 8 (.alt (.say (.bin .neq 3 (.pv (.sym 12)) (.pv (.sym 20)) (.pv (.lit (.bool true)))) 0 (.code .ret [(4, .pv (.lit (.bool false)))] [.box 26 [.pv (.sym 1), .pv (.sym 2), .pv (.sym 3), .pv (.sym 4), .pv (.sym 5)], .box 26 [.pv (.sym 6), .pv (.sym 7), .pv (.sym 8), .pv (.sym 9), .pv (.sym 10)]])) (.say (.bin .neq 3 (.pv (.sym 12)) (.pv (.sym 20)) (.pv (.lit (.bool false)))) 0 (.alt (.say (.bin .neq 9 (.pv (.sym 13)) (.pv (.sym 21)) (.pv (.lit (.bool true)))) 0 (.code .ret [(4, .pv (.lit (.bool false)))] [.box 26 [.pv (.sym 1), .pv (.sym 2), .pv (.sym 3), .pv (.sym 4), .pv (.sym 5)], .box 26 [.pv (.sym 6), .pv (.sym 7), .pv (.sym 8), .pv (.sym 9), .pv (.sym 10)]])) (.say (.bin .neq 9 (.pv (.sym 13)) (.pv (.sym 21)) (.pv (.lit (.bool false)))) 0 (.alt (.say (.bin .neq 2 (.pv (.sym 14)) (.pv (.sym 22)) (.pv (.lit (.bool true)))) 0 (.code .ret [(4, .pv (.lit (.bool false)))] [.box 26 [.pv (.sym 1), .pv (.sym 2), .pv (.sym 3), .pv (.sym 4), .pv (.sym 5)], .box 26 [.pv (.sym 6), .pv (.sym 7), .pv (.sym 8), .pv (.sym 9), .pv (.sym 10)]])) (.say (.bin .neq 2 (.pv (.sym 14)) (.pv (.sym 22)) (.pv (.lit (.bool false)))) 0 (.alt (.call ⟨12, [.agg [.pv (.sym 15), .pv (.sym 16), .pv (.sym 17), .pv (.sym 18), .pv (.sym 19)], .agg [.pv (.sym 23), .pv (.sym 24), .pv (.sym 25), .pv (.sym 26), .pv (.sym 27)]], [], .pv (.lit (.bool true)), []⟩ 0 (.say (.bin .add 3 (.pv (.sym 0)) (.pv (.lit (.int .i64 1))) (.pv (.sym 28))) 1 (.code .normal [(5, .pv (.sym 28)), (2, .ptr 0 0), (3, .ptr 1 0)] [.box 26 [.pv (.sym 1), .pv (.sym 2), .pv (.sym 3), .pv (.sym 4), .pv (.sym 5)], .box 26 [.pv (.sym 6), .pv (.sym 7), .pv (.sym 8), .pv (.sym 9), .pv (.sym 10)]]))) (.call ⟨12, [.agg [.pv (.sym 15), .pv (.sym 16), .pv (.sym 17), .pv (.sym 18), .pv (.sym 19)], .agg [.pv (.sym 23), .pv (.sym 24), .pv (.sym 25), .pv (.sym 26), .pv (.sym 27)]], [], .pv (.lit (.bool false)), []⟩ 0 (.code .ret [(4, .pv (.lit (.bool false)))] [.box 26 [.pv (.sym 1), .pv (.sym 2), .pv (.sym 3), .pv (.sym 4), .pv (.sym 5)], .box 26 [.pv (.sym 6), .pv (.sym 7), .pv (.sym 8), .pv (.sym 9), .pv (.sym 10)]])))))))))))) (.say (.bin .lss 3 (.pv (.sym 0)) (.pv (.sym 11)) (.pv (.lit (.bool false)))) 0 (.code (.exit 0) [(2, .ptr 0 0), (3, .ptr 1 0)] [.box 26 [.pv (.sym 1), .pv (.sym 2), .pv (.sym 3), .pv (.sym 4), .pv (.sym 5)], .box 26 [.pv (.sym 6), .pv (.sym 7), .pv (.sym 8), .pv (.sym 9), .pv (.sym 10)]])))
def E12b0a : Env := [(5, .pv (.sym 0)), (2, .ptr 0 0), (3, .ptr 1 0)]
def H12b0a : List AObj := [.box 26 [.pv (.sym 1), .pv (.sym 2), .pv (.sym 3), .pv (.sym 4), .pv (.sym 5)], .box 26 [.pv (.sym 6), .pv (.sym 7), .pv (.sym 8), .pv (.sym 9), .pv (.sym 10)]]
set_option maxRecDepth 100000 in
theorem c12b0a : chk Tryz.prog (leafC Tryz.prog Tryz.f12 t12 (lb Tryz.f12 0) 2 E12b0a H12b0a) T12b0a 11 [] [] [] = true := by kernel_rfl
theorem L12b0a (x0 : PV) (x1 : PV) (x2 : PV) (x3 : PV) (x4 : PV) (x5 : PV) (x6 : PV) (x7 : PV) (x8 : PV) (x9 : PV) (x10 : PV) (hn : NSL [x0, x1, x2, x3, x4, x5, x6, x7, x8, x9, x10]) (hh : TsH (nm [x0, x1, x2, x3, x4, x5, x6, x7, x8, x9, x10]) H12b0a) {ex : AExit} {e' : Env} {h' : List AObj} (hd : Den Tryz.prog Tryz.f12 T12b0a [x0, x1, x2, x3, x4, x5, x6, x7, x8, x9, x10] (.code ex e' h')) (R : Nat → PV) :
    CodeB R Tryz.prog Tryz.f12.ntmps (lb Tryz.f12 0) 2 [(5, .pv x0), (2, .ptr 0 0), (3, .ptr 1 0)] [.box 26 [.pv x1, .pv x2, .pv x3, .pv x4, .pv x5], .box 26 [.pv x6, .pv x7, .pv x8, .pv x9, .pv x10]] ex e' h' :=
  body_rule f12_loop0 mixed f12_tab0 (e := E12b0a) (h := H12b0a) (by kernel_rfl) c12b0a rfl hn (by simp [E12b0a]) hh hd R
theorem f12_loop2 : isLoop1 (subs 2 (bodyOf Tryz.f12)) = true := by kernel_rfl
theorem f12_tab2 : tabOk t12.sd t12.sx (lb Tryz.f12 2) = true := by kernel_rfl
-- loop 2, objects before it: 2; paths: 3
def T12b2a : Tr := .say (.len 24 (.pv (.sym 5)) (.pv (.sym 11))) 1 (.alt (.say (.bin .lss 3 (.pv (.sym 0)) (.pv (.sym 11)) (.pv (.lit (.bool true)))) 0 (.say (.idx 24 (.pv (.sym 5)) (.pv (.sym 0)) (.cptr [.sym 12, .sym 13, .sym 14, .sym 15, .sym 16])) 5 (.say (.idx 24 (.pv (.sym 10)) (.pv (.sym 0)) (.cptr [.sym 17, .sym 18, .sym 19, .sym 20, .sym 21])) 5 (.alt (.call ⟨12, [.agg [.pv (.sym 12), .pv (.sym 13), .pv (.sym 14), .pv (.sym 15), .pv (.sym 16)], .agg [.pv (.sym 17), .pv (.sym 18), .pv (.sym 19), .pv (.sym 20), .pv (.sym 21)]], [], .pv (.lit (.bool true)), []⟩ 0 (.say (.bin .add 3 (.pv (.sym 0)) (.pv (.lit (.int .i64 1))) (.pv (.sym 22))) 1 (.code .normal [(8, .pv (.sym 22)), (2, .ptr 0 0), (3, .ptr 1 0)] [.box 26 [.pv (.sym 1), .pv (.sym 2), .pv (.sym 3), .pv (.sym 4), .pv (.sym 5)], .box 26 [.pv (.sym 6), .pv (.sym 7), .pv (.sym 8), .pv (.sym 9), .pv (.sym 10)]]))) (.call ⟨12, [.agg [.pv (.sym 12), .pv (.sym 13), .pv (.sym 14), .pv (.sym 15), .pv (.sym 16)], .agg [.pv (.sym 17), .pv (.sym 18), .pv (.sym 19), .pv (.sym 20), .pv (.sym 21)]], [], .pv (.lit (.bool false)), []⟩ 0 (.code .ret [(4, .pv (.lit (.bool false)))] [.box 26 [.pv (.sym 1), .pv (.sym 2), .pv (.sym 3), .pv (.sym 4), .pv (.sym 5)], .box 26 [.pv (.sym 6), .pv (.sym 7), .pv (.sym 8), .pv (.sym 9), .pv (.sym 10)]])))))) (.say (.bin .lss 3 (.pv (.sym 0)) (.pv (.sym 11)) (.pv (.lit (.bool false)))) 0 (.code (.exit 2) [] [.box 26 [.pv (.sym 1), .pv (.sym 2), .pv (.sym 3), .pv (.sym 4), .pv (.sym 5)], .box 26 [.pv (.sym 6), .pv (.sym 7), .pv (.sym 8), .pv (.sym 9), .pv (.sym 10)]])))
def E12b2a : Env := [(8, .pv (.sym 0)), (2, .ptr 0 0), (3, .ptr 1 0)]
def H12b2a : List AObj := [.box 26 [.pv (.sym 1), .pv (.sym 2), .pv (.sym 3), .pv (.sym 4), .pv (.sym 5)], .box 26 [.pv (.sym 6), .pv (.sym 7), .pv (.sym 8), .pv (.sym 9), .pv (.sym 10)]]
set_option maxRecDepth 100000 in
theorem c12b2a : chk Tryz.prog (leafC Tryz.prog Tryz.f12 t12 (lb Tryz.f12 2) 2 E12b2a H12b2a) T12b2a 11 [] [] [] = true := by kernel_rfl
theorem L12b2a (x0 : PV) (x1 : PV) (x2 : PV) (x3 : PV) (x4 : PV) (x5 : PV) (x6 : PV) (x7 : PV) (x8 : PV) (x9 : PV) (x10 : PV) (hn : NSL [x0, x1, x2, x3, x4, x5, x6, x7, x8, x9, x10]) (hh : TsH (nm [x0, x1, x2, x3, x4, x5, x6, x7, x8, x9, x10]) H12b2a) {ex : AExit} {e' : Env} {h' : List AObj} (hd : Den Tryz.prog Tryz.f12 T12b2a [x0, x1, x2, x3, x4, x5, x6, x7, x8, x9, x10] (.code ex e' h')) (R : Nat → PV) :
    CodeB R Tryz.prog Tryz.f12.ntmps (lb Tryz.f12 2) 2 [(8, .pv x0), (2, .ptr 0 0), (3, .ptr 1 0)] [.box 26 [.pv x1, .pv x2, .pv x3, .pv x4, .pv x5], .box 26 [.pv x6, .pv x7, .pv x8, .pv x9, .pv x10]] ex e' h' :=
  body_rule f12_loop2 mixed f12_tab2 (e := E12b2a) (h := H12b2a) (by kernel_rfl) c12b2a rfl hn (by simp [E12b2a]) hh hd R
/-! 13: cognate/trees.Leaves -/
def t13 : FT where
  keep := []
  kb := fun
    | 1 => [20, 19, 18, 3, 1]
    | 3 => [33, 32, 31, 3]
    | _ => []
  sd := fun
    | _ => []
theorem f13_at : Tryz.prog.funcs[13]? = some Tryz.f13 := by kernel_rfl
theorem f13_body : Tryz.f13.body.isSome = true := by kernel_rfl
theorem f13_tab : tabOk t13.sd t13.sx (bodyOf Tryz.f13) = true := by kernel_rfl
-- paths: 6
def T13 : Tr := .alt (.say (.bin .eql 3 (.pv (.sym 0)) (.pv (.lit (.int .i64 1))) (.pv (.lit (.bool true)))) 0 (.ret (.trows 0 [[.sym 1]]) [.tok 3 1 1])) (.say (.bin .eql 3 (.pv (.sym 0)) (.pv (.lit (.int .i64 1))) (.pv (.lit (.bool false)))) 0 (.alt (.say (.bin .eql 3 (.pv (.sym 0)) (.pv (.lit (.int .i64 2))) (.pv (.lit (.bool true)))) 0 (.say (.len 23 (.pv (.sym 3)) (.pv (.sym 5))) 1 (.alt (.blk ⟨1, [(20, .pv (.lit (.int .i64 0))), (19, .pv (.sym 5)), (18, .pv (.sym 3)), (3, .pv (.lit (.slice none 0 0))), (1, .ptr 0 0)], [.box 26 [.pv (.sym 0), .pv (.sym 1), .pv (.sym 2), .pv (.sym 3), .pv (.sym 4)]], .normal, [(1, .ptr 0 0), (3, .pv (.lit (.slice none 0 0)))], [.box 26 [.pv (.sym 0), .pv (.sym 1), .pv (.sym 2), .pv (.sym 3), .pv (.sym 4)]]⟩ 0 (.say (.len 24 (.pv (.sym 4)) (.pv (.sym 6))) 1 (.alt (.blk ⟨3, [(33, .pv (.lit (.int .i64 0))), (32, .pv (.sym 6)), (31, .pv (.sym 4)), (3, .pv (.lit (.slice none 0 0)))], [], .normal, [(3, .pv (.lit (.slice none 0 0)))], []⟩ 0 (.ret (.pv (.lit (.slice none 0 0))) [])) (.blk ⟨3, [(33, .pv (.lit (.int .i64 0))), (32, .pv (.sym 6)), (31, .pv (.sym 4)), (3, .pv (.lit (.slice none 0 0)))], [], .normal, [(3, .tsym 0 7)], [.tok 3 1 (symBase + 7)]⟩ 1 (.ret (.tsym 0 7) [.tok 3 1 (symBase + 7)]))))) (.blk ⟨1, [(20, .pv (.lit (.int .i64 0))), (19, .pv (.sym 5)), (18, .pv (.sym 3)), (3, .pv (.lit (.slice none 0 0))), (1, .ptr 0 0)], [.box 26 [.pv (.sym 0), .pv (.sym 1), .pv (.sym 2), .pv (.sym 3), .pv (.sym 4)]], .normal, [(1, .ptr 0 0), (3, .tsym 1 6)], [.box 26 [.pv (.sym 0), .pv (.sym 1), .pv (.sym 2), .pv (.sym 3), .pv (.sym 4)], .tok 3 1 (symBase + 6)]⟩ 1 (.say (.len 24 (.pv (.sym 4)) (.pv (.sym 7))) 1 (.alt (.blk ⟨3, [(33, .pv (.lit (.int .i64 0))), (32, .pv (.sym 7)), (31, .pv (.sym 4)), (3, .tsym 0 6)], [.tok 3 1 (symBase + 6)], .normal, [(3, .tsym 0 6)], [.tok 3 1 (symBase + 6)]⟩ 0 (.ret (.tsym 0 6) [.tok 3 1 (symBase + 6)])) (.blk ⟨3, [(33, .pv (.lit (.int .i64 0))), (32, .pv (.sym 7)), (31, .pv (.sym 4)), (3, .tsym 0 6)], [.tok 3 1 (symBase + 6)], .normal, [(3, .tsym 1 8)], [.dead, .tok 3 1 (symBase + 8)]⟩ 1 (.ret (.tsym 0 8) [.tok 3 1 (symBase + 8)])))))))) (.say (.bin .eql 3 (.pv (.sym 0)) (.pv (.lit (.int .i64 2))) (.pv (.lit (.bool false)))) 0 (.ret (.trows 0 [[.lit (.int .i64 (-1))]]) [.tok 3 1 1]))))
def A13 : List AV := [.agg [.pv (.sym 0), .pv (.sym 1), .pv (.sym 2), .pv (.sym 3), .pv (.sym 4)]]
def H13 : List AObj := []
set_option maxRecDepth 100000 in
theorem c13 : chk Tryz.prog (leafF Tryz.prog t13 13 A13 H13) T13 5 [] [] [] = true := by kernel_rfl
theorem F13 (x0 : PV) (x1 : PV) (x2 : PV) (x3 : PV) (x4 : PV) (hn : NSL [x0, x1, x2, x3, x4]) {v : AV} {h' : List AObj} (hd : Den Tryz.prog Tryz.f13 T13 [x0, x1, x2, x3, x4] (.ret v h')) :
    Sem Tryz.prog 13 [.agg [.pv x0, .pv x1, .pv x2, .pv x3, .pv x4]] [] v h' :=
  fun_rule f13_at f13_body mixed f13_tab (args := A13) (h := H13) (by kernel_rfl) c13 rfl hn (by simp [A13]) (by trivial) hd
theorem f13_loop1 : isLoop1 (subs 1 (bodyOf Tryz.f13)) = true := by kernel_rfl
theorem f13_tab1 : tabOk t13.sd t13.sx (lb Tryz.f13 1) = true := by kernel_rfl
-- loop 1, objects before it: 1; paths: 3
def T13b1a : Tr := .alt (.say (.bin .lss 3 (.pv (.sym 0)) (.pv (.sym 1)) (.pv (.lit (.bool true)))) 0 (.say (.idx 23 (.pv (.sym 2)) (.pv (.sym 0)) (.cptr [.sym 8, .sym 9, .sym 10, .sym 11, .sym 12, .sym 13, .sym 14, .sym 15])) 8 (.call ⟨13, [.agg [.pv (.sym 11), .pv (.sym 12), .pv (.sym 13), .pv (.sym 14), .pv (.sym 15)]], [], .pv (.sym 16), []⟩ 1 (.alt (.say (.app 22 (.pv (.lit (.slice none 0 0))) (.pv (.sym 16)) 17) 1 (.say (.bin .add 3 (.pv (.sym 0)) (.pv (.lit (.int .i64 1))) (.pv (.sym 18))) 1 (.code .normal [(20, .pv (.sym 18)), (19, .pv (.sym 1)), (18, .pv (.sym 2)), (3, .tsym 1 17), (1, .ptr 0 0)] [.box 26 [.pv (.sym 3), .pv (.sym 4), .pv (.sym 5), .pv (.sym 6), .pv (.sym 7)], .tok 3 1 (symBase + 17)]))) (.say (.app0 22 (.pv (.lit (.slice none 0 0))) (.pv (.sym 16))) 0 (.say (.bin .add 3 (.pv (.sym 0)) (.pv (.lit (.int .i64 1))) (.pv (.sym 17))) 1 (.code .normal [(20, .pv (.sym 17)), (19, .pv (.sym 1)), (18, .pv (.sym 2)), (3, .pv (.lit (.slice none 0 0))), (1, .ptr 0 0)] [.box 26 [.pv (.sym 3), .pv (.sym 4), .pv (.sym 5), .pv (.sym 6), .pv (.sym 7)]]))))))) (.say (.bin .lss 3 (.pv (.sym 0)) (.pv (.sym 1)) (.pv (.lit (.bool false)))) 0 (.code (.exit 1) [(1, .ptr 0 0), (3, .pv (.lit (.slice none 0 0)))] [.box 26 [.pv (.sym 3), .pv (.sym 4), .pv (.sym 5), .pv (.sym 6), .pv (.sym 7)]]))
def E13b1a : Env := [(20, .pv (.sym 0)), (19, .pv (.sym 1)), (18, .pv (.sym 2)), (3, .pv (.lit (.slice none 0 0))), (1, .ptr 0 0)]
def H13b1a : List AObj := [.box 26 [.pv (.sym 3), .pv (.sym 4), .pv (.sym 5), .pv (.sym 6), .pv (.sym 7)]]
set_option maxRecDepth 100000 in
theorem c13b1a : chk Tryz.prog (leafC Tryz.prog Tryz.f13 t13 (lb Tryz.f13 1) 1 E13b1a H13b1a) T13b1a 8 [] [] [] = true := by kernel_rfl
theorem L13b1a (x0 : PV) (x1 : PV) (x2 : PV) (x3 : PV) (x4 : PV) (x5 : PV) (x6 : PV) (x7 : PV) (hn : NSL [x0, x1, x2, x3, x4, x5, x6, x7]) (hh : TsH (nm [x0, x1, x2, x3, x4, x5, x6, x7]) H13b1a) {ex : AExit} {e' : Env} {h' : List AObj} (hd : Den Tryz.prog Tryz.f13 T13b1a [x0, x1, x2, x3, x4, x5, x6, x7] (.code ex e' h')) (R : Nat → PV) :
    CodeB R Tryz.prog Tryz.f13.ntmps (lb Tryz.f13 1) 1 [(20, .pv x0), (19, .pv x1), (18, .pv x2), (3, .pv (.lit (.slice none 0 0))), (1, .ptr 0 0)] [.box 26 [.pv x3, .pv x4, .pv x5, .pv x6, .pv x7]] ex e' h' :=
  body_rule f13_loop1 mixed f13_tab1 (e := E13b1a) (h := H13b1a) (by kernel_rfl) c13b1a rfl hn (by simp [E13b1a]) hh hd R
-- loop 1, objects before it: 1; paths: 3
def T13b1b : Tr := .alt (.say (.bin .lss 3 (.pv (.sym 0)) (.pv (.sym 1)) (.pv (.lit (.bool true)))) 0 (.say (.idx 23 (.pv (.sym 2)) (.pv (.sym 0)) (.cptr [.sym 9, .sym 10, .sym 11, .sym 12, .sym 13, .sym 14, .sym 15, .sym 16])) 8 (.call ⟨13, [.agg [.pv (.sym 12), .pv (.sym 13), .pv (.sym 14), .pv (.sym 15), .pv (.sym 16)]], [], .pv (.sym 17), []⟩ 1 (.alt (.say (.app 22 (.pv (.sym 3)) (.pv (.sym 17)) 18) 1 (.say (.bin .add 3 (.pv (.sym 0)) (.pv (.lit (.int .i64 1))) (.pv (.sym 19))) 1 (.code .normal [(20, .pv (.sym 19)), (19, .pv (.sym 1)), (18, .pv (.sym 2)), (3, .tsym 1 18), (1, .ptr 0 0)] [.box 26 [.pv (.sym 4), .pv (.sym 5), .pv (.sym 6), .pv (.sym 7), .pv (.sym 8)], .tok 3 1 (symBase + 18)]))) (.say (.app0 22 (.pv (.sym 3)) (.pv (.sym 17))) 0 (.say (.bin .add 3 (.pv (.sym 0)) (.pv (.lit (.int .i64 1))) (.pv (.sym 18))) 1 (.code .normal [(20, .pv (.sym 18)), (19, .pv (.sym 1)), (18, .pv (.sym 2)), (3, .tsym 1 3), (1, .ptr 0 0)] [.box 26 [.pv (.sym 4), .pv (.sym 5), .pv (.sym 6), .pv (.sym 7), .pv (.sym 8)], .tok 3 1 (symBase + 3)]))))))) (.say (.bin .lss 3 (.pv (.sym 0)) (.pv (.sym 1)) (.pv (.lit (.bool false)))) 0 (.code (.exit 1) [(1, .ptr 0 0), (3, .tsym 1 3)] [.box 26 [.pv (.sym 4), .pv (.sym 5), .pv (.sym 6), .pv (.sym 7), .pv (.sym 8)], .tok 3 1 (symBase + 3)]))
def E13b1b : Env := [(20, .pv (.sym 0)), (19, .pv (.sym 1)), (18, .pv (.sym 2)), (3, .tsym 1 3), (1, .ptr 0 0)]
def H13b1b : List AObj := [.box 26 [.pv (.sym 4), .pv (.sym 5), .pv (.sym 6), .pv (.sym 7), .pv (.sym 8)], .tok 3 1 (symBase + 3)]
set_option maxRecDepth 100000 in
theorem c13b1b : chk Tryz.prog (leafC Tryz.prog Tryz.f13 t13 (lb Tryz.f13 1) 1 E13b1b H13b1b) T13b1b 9 [] [] [] = true := by kernel_rfl
theorem L13b1b (x0 : PV) (x1 : PV) (x2 : PV) (x3 : List (List PV)) (x4 : PV) (x5 : PV) (x6 : PV) (x7 : PV) (x8 : PV) (hn : NSL [x0, x1, x2, .rows x3, x4, x5, x6, x7, x8]) (hh : TsH (nm [x0, x1, x2, .rows x3, x4, x5, x6, x7, x8]) H13b1b) {ex : AExit} {e' : Env} {h' : List AObj} (hd : Den Tryz.prog Tryz.f13 T13b1b [x0, x1, x2, .rows x3, x4, x5, x6, x7, x8] (.code ex e' h')) (R : Nat → PV) :
    CodeB R Tryz.prog Tryz.f13.ntmps (lb Tryz.f13 1) 1 [(20, .pv x0), (19, .pv x1), (18, .pv x2), (3, .trows 1 x3), (1, .ptr 0 0)] [.box 26 [.pv x4, .pv x5, .pv x6, .pv x7, .pv x8], .tok 3 1 x3.length] ex e' h' :=
  body_rule f13_loop1 mixed f13_tab1 (e := E13b1b) (h := H13b1b) (by kernel_rfl) c13b1b rfl hn (by simp [E13b1b]) hh hd R
theorem f13_loop3 : isLoop1 (subs 3 (bodyOf Tryz.f13)) = true := by kernel_rfl
theorem f13_tab3 : tabOk t13.sd t13.sx (lb Tryz.f13 3) = true := by kernel_rfl
-- loop 3, objects before it: 0; paths: 3
def T13b3a : Tr := .alt (.say (.bin .lss 3 (.pv (.sym 0)) (.pv (.sym 1)) (.pv (.lit (.bool true)))) 0 (.say (.idx 24 (.pv (.sym 2)) (.pv (.sym 0)) (.cptr [.sym 3, .sym 4, .sym 5, .sym 6, .sym 7])) 5 (.call ⟨13, [.agg [.pv (.sym 3), .pv (.sym 4), .pv (.sym 5), .pv (.sym 6), .pv (.sym 7)]], [], .pv (.sym 8), []⟩ 1 (.alt (.say (.app 22 (.pv (.lit (.slice none 0 0))) (.pv (.sym 8)) 9) 1 (.say (.bin .add 3 (.pv (.sym 0)) (.pv (.lit (.int .i64 1))) (.pv (.sym 10))) 1 (.code .normal [(33, .pv (.sym 10)), (32, .pv (.sym 1)), (31, .pv (.sym 2)), (3, .tsym 0 9)] [.tok 3 1 (symBase + 9)]))) (.say (.app0 22 (.pv (.lit (.slice none 0 0))) (.pv (.sym 8))) 0 (.say (.bin .add 3 (.pv (.sym 0)) (.pv (.lit (.int .i64 1))) (.pv (.sym 9))) 1 (.code .normal [(33, .pv (.sym 9)), (32, .pv (.sym 1)), (31, .pv (.sym 2)), (3, .pv (.lit (.slice none 0 0)))] []))))))) (.say (.bin .lss 3 (.pv (.sym 0)) (.pv (.sym 1)) (.pv (.lit (.bool false)))) 0 (.code (.exit 3) [(3, .pv (.lit (.slice none 0 0)))] []))
def E13b3a : Env := [(33, .pv (.sym 0)), (32, .pv (.sym 1)), (31, .pv (.sym 2)), (3, .pv (.lit (.slice none 0 0)))]
def H13b3a : List AObj := []
set_option maxRecDepth 100000 in
theorem c13b3a : chk Tryz.prog (leafC Tryz.prog Tryz.f13 t13 (lb Tryz.f13 3) 0 E13b3a H13b3a) T13b3a 3 [] [] [] = true := by kernel_rfl
theorem L13b3a (x0 : PV) (x1 : PV) (x2 : PV) (hn : NSL [x0, x1, x2]) {ex : AExit} {e' : Env} {h' : List AObj} (hd : Den Tryz.prog Tryz.f13 T13b3a [x0, x1, x2] (.code ex e' h')) (R : Nat → PV) :
    CodeB R Tryz.prog Tryz.f13.ntmps (lb Tryz.f13 3) 0 [(33, .pv x0), (32, .pv x1), (31, .pv x2), (3, .pv (.lit (.slice none 0 0)))] [] ex e' h' :=
  body_rule f13_loop3 mixed f13_tab3 (e := E13b3a) (h := H13b3a) (by kernel_rfl) c13b3a rfl hn (by simp [E13b3a]) (by trivial) hd R
-- loop 3, objects before it: 1; paths: 3
def T13b3b : Tr := .alt (.say (.bin .lss 3 (.pv (.sym 0)) (.pv (.sym 1)) (.pv (.lit (.bool true)))) 0 (.say (.idx 24 (.pv (.sym 2)) (.pv (.sym 0)) (.cptr [.sym 4, .sym 5, .sym 6, .sym 7, .sym 8])) 5 (.call ⟨13, [.agg [.pv (.sym 4), .pv (.sym 5), .pv (.sym 6), .pv (.sym 7), .pv (.sym 8)]], [], .pv (.sym 9), []⟩ 1 (.alt (.say (.app 22 (.pv (.sym 3)) (.pv (.sym 9)) 10) 1 (.say (.bin .add 3 (.pv (.sym 0)) (.pv (.lit (.int .i64 1))) (.pv (.sym 11))) 1 (.code .normal [(33, .pv (.sym 11)), (32, .pv (.sym 1)), (31, .pv (.sym 2)), (3, .tsym 1 10)] [.dead, .tok 3 1 (symBase + 10)]))) (.say (.app0 22 (.pv (.sym 3)) (.pv (.sym 9))) 0 (.say (.bin .add 3 (.pv (.sym 0)) (.pv (.lit (.int .i64 1))) (.pv (.sym 10))) 1 (.code .normal [(33, .pv (.sym 10)), (32, .pv (.sym 1)), (31, .pv (.sym 2)), (3, .tsym 0 3)] [.tok 3 1 (symBase + 3)]))))))) (.say (.bin .lss 3 (.pv (.sym 0)) (.pv (.sym 1)) (.pv (.lit (.bool false)))) 0 (.code (.exit 3) [(3, .tsym 0 3)] [.tok 3 1 (symBase + 3)]))
def E13b3b : Env := [(33, .pv (.sym 0)), (32, .pv (.sym 1)), (31, .pv (.sym 2)), (3, .tsym 0 3)]
def H13b3b : List AObj := [.tok 3 1 (symBase + 3)]
set_option maxRecDepth 100000 in
theorem c13b3b : chk Tryz.prog (leafC Tryz.prog Tryz.f13 t13 (lb Tryz.f13 3) 1 E13b3b H13b3b) T13b3b 4 [] [] [] = true := by kernel_rfl
theorem L13b3b (x0 : PV) (x1 : PV) (x2 : PV) (x3 : List (List PV)) (hn : NSL [x0, x1, x2, .rows x3]) (hh : TsH (nm [x0, x1, x2, .rows x3]) H13b3b) {ex : AExit} {e' : Env} {h' : List AObj} (hd : Den Tryz.prog Tryz.f13 T13b3b [x0, x1, x2, .rows x3] (.code ex e' h')) (R : Nat → PV) :
    CodeB R Tryz.prog Tryz.f13.ntmps (lb Tryz.f13 3) 1 [(33, .pv x0), (32, .pv x1), (31, .pv x2), (3, .trows 0 x3)] [.tok 3 1 x3.length] ex e' h' :=
  body_rule f13_loop3 mixed f13_tab3 (e := E13b3b) (h := H13b3b) (by kernel_rfl) c13b3b rfl hn (by simp [E13b3b]) hh hd R
-- loop 3, objects before it: 0; paths: 3
def T13b3c : Tr := .alt (.say (.bin .lss 3 (.pv (.sym 0)) (.pv (.sym 1)) (.pv (.lit (.bool true)))) 0 (.say (.idx 24 (.pv (.sym 2)) (.pv (.sym 0)) (.cptr [.sym 4, .sym 5, .sym 6, .sym 7, .sym 8])) 5 (.call ⟨13, [.agg [.pv (.sym 4), .pv (.sym 5), .pv (.sym 6), .pv (.sym 7), .pv (.sym 8)]], [], .pv (.sym 9), []⟩ 1 (.alt (.say (.app 22 (.pv (.sym 3)) (.pv (.sym 9)) 10) 1 (.say (.bin .add 3 (.pv (.sym 0)) (.pv (.lit (.int .i64 1))) (.pv (.sym 11))) 1 (.code .normal [(33, .pv (.sym 11)), (32, .pv (.sym 1)), (31, .pv (.sym 2)), (3, .tsym 0 10)] [.tok 3 1 (symBase + 10)]))) (.say (.app0 22 (.pv (.sym 3)) (.pv (.sym 9))) 0 (.say (.bin .add 3 (.pv (.sym 0)) (.pv (.lit (.int .i64 1))) (.pv (.sym 10))) 1 (.code .normal [(33, .pv (.sym 10)), (32, .pv (.sym 1)), (31, .pv (.sym 2)), (3, .tsym 0 3)] [.tok 3 1 (symBase + 3)]))))))) (.say (.bin .lss 3 (.pv (.sym 0)) (.pv (.sym 1)) (.pv (.lit (.bool false)))) 0 (.code (.exit 3) [(3, .tsym 0 3)] [.tok 3 1 (symBase + 3)]))
def E13b3c : Env := [(33, .pv (.sym 0)), (32, .pv (.sym 1)), (31, .pv (.sym 2)), (3, .tsym 0 3)]
def H13b3c : List AObj := [.tok 3 1 (symBase + 3)]
set_option maxRecDepth 100000 in
theorem c13b3c : chk Tryz.prog (leafC Tryz.prog Tryz.f13 t13 (lb Tryz.f13 3) 0 E13b3c H13b3c) T13b3c 4 [] [] [] = true := by kernel_rfl
theorem L13b3c (x0 : PV) (x1 : PV) (x2 : PV) (x3 : List (List PV)) (hn : NSL [x0, x1, x2, .rows x3]) (hh : TsH (nm [x0, x1, x2, .rows x3]) H13b3c) {ex : AExit} {e' : Env} {h' : List AObj} (hd : Den Tryz.prog Tryz.f13 T13b3c [x0, x1, x2, .rows x3] (.code ex e' h')) (R : Nat → PV) :
    CodeB R Tryz.prog Tryz.f13.ntmps (lb Tryz.f13 3) 0 [(33, .pv x0), (32, .pv x1), (31, .pv x2), (3, .trows 0 x3)] [.tok 3 1 x3.length] ex e' h' :=
  body_rule f13_loop3 mixed f13_tab3 (e := E13b3c) (h := H13b3c) (by kernel_rfl) c13b3c rfl hn (by simp [E13b3c]) hh hd R
-- loop 3, objects before it: 1; paths: 3
def T13b3d : Tr := .alt (.say (.bin .lss 3 (.pv (.sym 0)) (.pv (.sym 1)) (.pv (.lit (.bool true)))) 0 (.say (.idx 24 (.pv (.sym 2)) (.pv (.sym 0)) (.cptr [.sym 4, .sym 5, .sym 6, .sym 7, .sym 8])) 5 (.call ⟨13, [.agg [.pv (.sym 4), .pv (.sym 5), .pv (.sym 6), .pv (.sym 7), .pv (.sym 8)]], [], .pv (.sym 9), []⟩ 1 (.alt (.say (.app 22 (.pv (.sym 3)) (.pv (.sym 9)) 10) 1 (.say (.bin .add 3 (.pv (.sym 0)) (.pv (.lit (.int .i64 1))) (.pv (.sym 11))) 1 (.code .normal [(33, .pv (.sym 11)), (32, .pv (.sym 1)), (31, .pv (.sym 2)), (3, .tsym 1 10)] [.dead, .tok 3 1 (symBase + 10)]))) (.say (.app0 22 (.pv (.sym 3)) (.pv (.sym 9))) 0 (.say (.bin .add 3 (.pv (.sym 0)) (.pv (.lit (.int .i64 1))) (.pv (.sym 10))) 1 (.code .normal [(33, .pv (.sym 10)), (32, .pv (.sym 1)), (31, .pv (.sym 2)), (3, .tsym 1 3)] [.dead, .tok 3 1 (symBase + 3)]))))))) (.say (.bin .lss 3 (.pv (.sym 0)) (.pv (.sym 1)) (.pv (.lit (.bool false)))) 0 (.code (.exit 3) [(3, .tsym 1 3)] [.dead, .tok 3 1 (symBase + 3)]))
def E13b3d : Env := [(33, .pv (.sym 0)), (32, .pv (.sym 1)), (31, .pv (.sym 2)), (3, .tsym 1 3)]
def H13b3d : List AObj := [.dead, .tok 3 1 (symBase + 3)]
set_option maxRecDepth 100000 in
theorem c13b3d : chk Tryz.prog (leafC Tryz.prog Tryz.f13 t13 (lb Tryz.f13 3) 1 E13b3d H13b3d) T13b3d 4 [] [] [] = true := by kernel_rfl
theorem L13b3d (x0 : PV) (x1 : PV) (x2 : PV) (x3 : List (List PV)) (hn : NSL [x0, x1, x2, .rows x3]) (hh : TsH (nm [x0, x1, x2, .rows x3]) H13b3d) {ex : AExit} {e' : Env} {h' : List AObj} (hd : Den Tryz.prog Tryz.f13 T13b3d [x0, x1, x2, .rows x3] (.code ex e' h')) (R : Nat → PV) :
    CodeB R Tryz.prog Tryz.f13.ntmps (lb Tryz.f13 3) 1 [(33, .pv x0), (32, .pv x1), (31, .pv x2), (3, .trows 1 x3)] [.dead, .tok 3 1 x3.length] ex e' h' :=
  body_rule f13_loop3 mixed f13_tab3 (e := E13b3d) (h := H13b3d) (by kernel_rfl) c13b3d rfl hn (by simp [E13b3d]) hh hd R
/-! 14: cognate/cognateref27.Leaves -/
def t14 : FT where
  keep := []
  kb := fun
    | 0 => [4, 1, 3]
    | 2 => [5, 1, 3]
    | _ => []
  sd := fun
    | _ => []
theorem f14_at : Tryz.prog.funcs[14]? = some Tryz.f14 := by kernel_rfl
theorem f14_body : Tryz.f14.body.isSome = true := by kernel_rfl
theorem f14_tab : tabOk t14.sd t14.sx (bodyOf Tryz.f14) = true := by kernel_rfl
-- paths: 6
def T14 : Tr := .alt (.say (.bin .eql 3 (.pv (.sym 0)) (.pv (.lit (.int .i64 1))) (.pv (.lit (.bool true)))) 0 (.ret (.trows 0 [[.sym 1]]) [.tok 3 1 1])) (.say (.bin .eql 3 (.pv (.sym 0)) (.pv (.lit (.int .i64 1))) (.pv (.lit (.bool false)))) 0 (.alt (.say (.bin .neq 3 (.pv (.sym 0)) (.pv (.lit (.int .i64 2))) (.pv (.lit (.bool true)))) 0 (.ret (.trows 0 [[.lit (.int .i64 (-1))]]) [.tok 3 1 1])) (.say (.bin .neq 3 (.pv (.sym 0)) (.pv (.lit (.int .i64 2))) (.pv (.lit (.bool false)))) 0 (.alt (.blk ⟨0, [(4, .pv (.lit (.int .i64 0))), (1, .ptr 0 0), (3, .pv (.lit (.slice none 0 0)))], [.box 26 [.pv (.sym 0), .pv (.sym 1), .pv (.sym 2), .pv (.sym 3), .pv (.sym 4)]], .normal, [(1, .ptr 0 0), (3, .pv (.lit (.slice none 0 0)))], [.box 26 [.pv (.sym 0), .pv (.sym 1), .pv (.sym 2), .pv (.sym 3), .pv (.sym 4)]]⟩ 0 (.alt (.blk ⟨2, [(5, .pv (.lit (.int .i64 0))), (1, .ptr 0 0), (3, .pv (.lit (.slice none 0 0)))], [.box 26 [.pv (.sym 0), .pv (.sym 1), .pv (.sym 2), .pv (.sym 3), .pv (.sym 4)]], .normal, [(3, .pv (.lit (.slice none 0 0)))], [.box 26 [.pv (.sym 0), .pv (.sym 1), .pv (.sym 2), .pv (.sym 3), .pv (.sym 4)]]⟩ 0 (.ret (.pv (.lit (.slice none 0 0))) [])) (.blk ⟨2, [(5, .pv (.lit (.int .i64 0))), (1, .ptr 0 0), (3, .pv (.lit (.slice none 0 0)))], [.box 26 [.pv (.sym 0), .pv (.sym 1), .pv (.sym 2), .pv (.sym 3), .pv (.sym 4)]], .normal, [(3, .tsym 1 5)], [.box 26 [.pv (.sym 0), .pv (.sym 1), .pv (.sym 2), .pv (.sym 3), .pv (.sym 4)], .tok 3 1 (symBase + 5)]⟩ 1 (.ret (.tsym 0 5) [.tok 3 1 (symBase + 5)])))) (.blk ⟨0, [(4, .pv (.lit (.int .i64 0))), (1, .ptr 0 0), (3, .pv (.lit (.slice none 0 0)))], [.box 26 [.pv (.sym 0), .pv (.sym 1), .pv (.sym 2), .pv (.sym 3), .pv (.sym 4)]], .normal, [(1, .ptr 0 0), (3, .tsym 1 5)], [.box 26 [.pv (.sym 0), .pv (.sym 1), .pv (.sym 2), .pv (.sym 3), .pv (.sym 4)], .tok 3 1 (symBase + 5)]⟩ 1 (.alt (.blk ⟨2, [(5, .pv (.lit (.int .i64 0))), (1, .ptr 0 0), (3, .tsym 1 5)], [.box 26 [.pv (.sym 0), .pv (.sym 1), .pv (.sym 2), .pv (.sym 3), .pv (.sym 4)], .tok 3 1 (symBase + 5)], .normal, [(3, .tsym 1 5)], [.box 26 [.pv (.sym 0), .pv (.sym 1), .pv (.sym 2), .pv (.sym 3), .pv (.sym 4)], .tok 3 1 (symBase + 5)]⟩ 0 (.ret (.tsym 0 5) [.tok 3 1 (symBase + 5)])) (.blk ⟨2, [(5, .pv (.lit (.int .i64 0))), (1, .ptr 0 0), (3, .tsym 1 5)], [.box 26 [.pv (.sym 0), .pv (.sym 1), .pv (.sym 2), .pv (.sym 3), .pv (.sym 4)], .tok 3 1 (symBase + 5)], .normal, [(3, .tsym 2 6)], [.box 26 [.pv (.sym 0), .pv (.sym 1), .pv (.sym 2), .pv (.sym 3), .pv (.sym 4)], .dead, .tok 3 1 (symBase + 6)]⟩ 1 (.ret (.tsym 0 6) [.tok 3 1 (symBase + 6)]))))))))
def A14 : List AV := [.agg [.pv (.sym 0), .pv (.sym 1), .pv (.sym 2), .pv (.sym 3), .pv (.sym 4)]]
def H14 : List AObj := []
set_option maxRecDepth 100000 in
theorem c14 : chk Tryz.prog (leafF Tryz.prog t14 14 A14 H14) T14 5 [] [] [] = true := by kernel_rfl
theorem F14 (x0 : PV) (x1 : PV) (x2 : PV) (x3 : PV) (x4 : PV) (hn : NSL [x0, x1, x2, x3, x4]) {v : AV} {h' : List AObj} (hd : Den Tryz.prog Tryz.f14 T14 [x0, x1, x2, x3, x4] (.ret v h')) :
    Sem Tryz.prog 14 [.agg [.pv x0, .pv x1, .pv x2, .pv x3, .pv x4]] [] v h' :=
  fun_rule f14_at f14_body mixed f14_tab (args := A14) (h := H14) (by kernel_rfl) c14 rfl hn (by simp [A14]) (by trivial) hd
theorem f14_loop0 : isLoop1 (subs 0 (bodyOf Tryz.f14)) = true := by kernel_rfl
theorem f14_tab0 : tabOk t14.sd t14.sx (lb Tryz.f14 0) = true := by kernel_rfl
-- loop 0, objects before it: 1; paths: 3
def T14b0a : Tr := .say (.len 23 (.pv (.sym 4)) (.pv (.sym 6))) 1 (.alt (.say (.bin .lss 3 (.pv (.sym 0)) (.pv (.sym 6)) (.pv (.lit (.bool true)))) 0 (.say (.idx 23 (.pv (.sym 4)) (.pv (.sym 0)) (.cptr [.sym 7, .sym 8, .sym 9, .sym 10, .sym 11, .sym 12, .sym 13, .sym 14])) 8 (.call ⟨14, [.agg [.pv (.sym 10), .pv (.sym 11), .pv (.sym 12), .pv (.sym 13), .pv (.sym 14)]], [], .pv (.sym 15), []⟩ 1 (.alt (.say (.app 22 (.pv (.lit (.slice none 0 0))) (.pv (.sym 15)) 16) 1 (.say (.bin .add 3 (.pv (.sym 0)) (.pv (.lit (.int .i64 1))) (.pv (.sym 17))) 1 (.code .normal [(4, .pv (.sym 17)), (1, .ptr 0 0), (3, .tsym 1 16)] [.box 26 [.pv (.sym 1), .pv (.sym 2), .pv (.sym 3), .pv (.sym 4), .pv (.sym 5)], .tok 3 1 (symBase + 16)]))) (.say (.app0 22 (.pv (.lit (.slice none 0 0))) (.pv (.sym 15))) 0 (.say (.bin .add 3 (.pv (.sym 0)) (.pv (.lit (.int .i64 1))) (.pv (.sym 16))) 1 (.code .normal [(4, .pv (.sym 16)), (1, .ptr 0 0), (3, .pv (.lit (.slice none 0 0)))] [.box 26 [.pv (.sym 1), .pv (.sym 2), .pv (.sym 3), .pv (.sym 4), .pv (.sym 5)]]))))))) (.say (.bin .lss 3 (.pv (.sym 0)) (.pv (.sym 6)) (.pv (.lit (.bool false)))) 0 (.code (.exit 0) [(1, .ptr 0 0), (3, .pv (.lit (.slice none 0 0)))] [.box 26 [.pv (.sym 1), .pv (.sym 2), .pv (.sym 3), .pv (.sym 4), .pv (.sym 5)]])))
def E14b0a : Env := [(4, .pv (.sym 0)), (1, .ptr 0 0), (3, .pv (.lit (.slice none 0 0)))]
def H14b0a : List AObj := [.box 26 [.pv (.sym 1), .pv (.sym 2), .pv (.sym 3), .pv (.sym 4), .pv (.sym 5)]]
set_option maxRecDepth 100000 in
theorem c14b0a : chk Tryz.prog (leafC Tryz.prog Tryz.f14 t14 (lb Tryz.f14 0) 1 E14b0a H14b0a) T14b0a 6 [] [] [] = true := by kernel_rfl
theorem L14b0a (x0 : PV) (x1 : PV) (x2 : PV) (x3 : PV) (x4 : PV) (x5 : PV) (hn : NSL [x0, x1, x2, x3, x4, x5]) (hh : TsH (nm [x0, x1, x2, x3, x4, x5]) H14b0a) {ex : AExit} {e' : Env} {h' : List AObj} (hd : Den Tryz.prog Tryz.f14 T14b0a [x0, x1, x2, x3, x4, x5] (.code ex e' h')) (R : Nat → PV) :
    CodeB R Tryz.prog Tryz.f14.ntmps (lb Tryz.f14 0) 1 [(4, .pv x0), (1, .ptr 0 0), (3, .pv (.lit (.slice none 0 0)))] [.box 26 [.pv x1, .pv x2, .pv x3, .pv x4, .pv x5]] ex e' h' :=
  body_rule f14_loop0 mixed f14_tab0 (e := E14b0a) (h := H14b0a) (by kernel_rfl) c14b0a rfl hn (by simp [E14b0a]) hh hd R
-- loop 0, objects before it: 1; paths: 3
def T14b0b : Tr := .say (.len 23 (.pv (.sym 5)) (.pv (.sym 7))) 1 (.alt (.say (.bin .lss 3 (.pv (.sym 0)) (.pv (.sym 7)) (.pv (.lit (.bool true)))) 0 (.say (.idx 23 (.pv (.sym 5)) (.pv (.sym 0)) (.cptr [.sym 8, .sym 9, .sym 10, .sym 11, .sym 12, .sym 13, .sym 14, .sym 15])) 8 (.call ⟨14, [.agg [.pv (.sym 11), .pv (.sym 12), .pv (.sym 13), .pv (.sym 14), .pv (.sym 15)]], [], .pv (.sym 16), []⟩ 1 (.alt (.say (.app 22 (.pv (.sym 1)) (.pv (.sym 16)) 17) 1 (.say (.bin .add 3 (.pv (.sym 0)) (.pv (.lit (.int .i64 1))) (.pv (.sym 18))) 1 (.code .normal [(4, .pv (.sym 18)), (1, .ptr 0 0), (3, .tsym 1 17)] [.box 26 [.pv (.sym 2), .pv (.sym 3), .pv (.sym 4), .pv (.sym 5), .pv (.sym 6)], .tok 3 1 (symBase + 17)]))) (.say (.app0 22 (.pv (.sym 1)) (.pv (.sym 16))) 0 (.say (.bin .add 3 (.pv (.sym 0)) (.pv (.lit (.int .i64 1))) (.pv (.sym 17))) 1 (.code .normal [(4, .pv (.sym 17)), (1, .ptr 0 0), (3, .tsym 1 1)] [.box 26 [.pv (.sym 2), .pv (.sym 3), .pv (.sym 4), .pv (.sym 5), .pv (.sym 6)], .tok 3 1 (symBase + 1)]))))))) (.say (.bin .lss 3 (.pv (.sym 0)) (.pv (.sym 7)) (.pv (.lit (.bool false)))) 0 (.code (.exit 0) [(1, .ptr 0 0), (3, .tsym 1 1)] [.box 26 [.pv (.sym 2), .pv (.sym 3), .pv (.sym 4), .pv (.sym 5), .pv (.sym 6)], .tok 3 1 (symBase + 1)])))
def E14b0b : Env := [(4, .pv (.sym 0)), (1, .ptr 0 0), (3, .tsym 1 1)]
def H14b0b : List AObj := [.box 26 [.pv (.sym 2), .pv (.sym 3), .pv (.sym 4), .pv (.sym 5), .pv (.sym 6)], .tok 3 1 (symBase + 1)]
set_option maxRecDepth 100000 in
theorem c14b0b : chk Tryz.prog (leafC Tryz.prog Tryz.f14 t14 (lb Tryz.f14 0) 1 E14b0b H14b0b) T14b0b 7 [] [] [] = true := by kernel_rfl
theorem L14b0b (x0 : PV) (x1 : List (List PV)) (x2 : PV) (x3 : PV) (x4 : PV) (x5 : PV) (x6 : PV) (hn : NSL [x0, .rows x1, x2, x3, x4, x5, x6]) (hh : TsH (nm [x0, .rows x1, x2, x3, x4, x5, x6]) H14b0b) {ex : AExit} {e' : Env} {h' : List AObj} (hd : Den Tryz.prog Tryz.f14 T14b0b [x0, .rows x1, x2, x3, x4, x5, x6] (.code ex e' h')) (R : Nat → PV) :
    CodeB R Tryz.prog Tryz.f14.ntmps (lb Tryz.f14 0) 1 [(4, .pv x0), (1, .ptr 0 0), (3, .trows 1 x1)] [.box 26 [.pv x2, .pv x3, .pv x4, .pv x5, .pv x6], .tok 3 1 x1.length] ex e' h' :=
  body_rule f14_loop0 mixed f14_tab0 (e := E14b0b) (h := H14b0b) (by kernel_rfl) c14b0b rfl hn (by simp [E14b0b]) hh hd R
theorem f14_loop2 : isLoop1 (subs 2 (bodyOf Tryz.f14)) = true := by kernel_rfl
theorem f14_tab2 : tabOk t14.sd t14.sx (lb Tryz.f14 2) = true := by kernel_rfl
-- loop 2, objects before it: 1; paths: 3
def T14b2a : Tr := .say (.len 24 (.pv (.sym 5)) (.pv (.sym 6))) 1 (.alt (.say (.bin .lss 3 (.pv (.sym 0)) (.pv (.sym 6)) (.pv (.lit (.bool true)))) 0 (.say (.idx 24 (.pv (.sym 5)) (.pv (.sym 0)) (.cptr [.sym 7, .sym 8, .sym 9, .sym 10, .sym 11])) 5 (.call ⟨14, [.agg [.pv (.sym 7), .pv (.sym 8), .pv (.sym 9), .pv (.sym 10), .pv (.sym 11)]], [], .pv (.sym 12), []⟩ 1 (.alt (.say (.app 22 (.pv (.lit (.slice none 0 0))) (.pv (.sym 12)) 13) 1 (.say (.bin .add 3 (.pv (.sym 0)) (.pv (.lit (.int .i64 1))) (.pv (.sym 14))) 1 (.code .normal [(5, .pv (.sym 14)), (1, .ptr 0 0), (3, .tsym 1 13)] [.box 26 [.pv (.sym 1), .pv (.sym 2), .pv (.sym 3), .pv (.sym 4), .pv (.sym 5)], .tok 3 1 (symBase + 13)]))) (.say (.app0 22 (.pv (.lit (.slice none 0 0))) (.pv (.sym 12))) 0 (.say (.bin .add 3 (.pv (.sym 0)) (.pv (.lit (.int .i64 1))) (.pv (.sym 13))) 1 (.code .normal [(5, .pv (.sym 13)), (1, .ptr 0 0), (3, .pv (.lit (.slice none 0 0)))] [.box 26 [.pv (.sym 1), .pv (.sym 2), .pv (.sym 3), .pv (.sym 4), .pv (.sym 5)]]))))))) (.say (.bin .lss 3 (.pv (.sym 0)) (.pv (.sym 6)) (.pv (.lit (.bool false)))) 0 (.code (.exit 2) [(3, .pv (.lit (.slice none 0 0)))] [.box 26 [.pv (.sym 1), .pv (.sym 2), .pv (.sym 3), .pv (.sym 4), .pv (.sym 5)]])))
def E14b2a : Env := [(5, .pv (.sym 0)), (1, .ptr 0 0), (3, .pv (.lit (.slice none 0 0)))]
def H14b2a : List AObj := [.box 26 [.pv (.sym 1), .pv (.sym 2), .pv (.sym 3), .pv (.sym 4), .pv (.sym 5)]]
set_option maxRecDepth 100000 in
theorem c14b2a : chk Tryz.prog (leafC Tryz.prog Tryz.f14 t14 (lb Tryz.f14 2) 1 E14b2a H14b2a) T14b2a 6 [] [] [] = true := by kernel_rfl
theorem L14b2a (x0 : PV) (x1 : PV) (x2 : PV) (x3 : PV) (x4 : PV) (x5 : PV) (hn : NSL [x0, x1, x2, x3, x4, x5]) (hh : TsH (nm [x0, x1, x2, x3, x4, x5]) H14b2a) {ex : AExit} {e' : Env} {h' : List AObj} (hd : Den Tryz.prog Tryz.f14 T14b2a [x0, x1, x2, x3, x4, x5] (.code ex e' h')) (R : Nat → PV) :
    CodeB R Tryz.prog Tryz.f14.ntmps (lb Tryz.f14 2) 1 [(5, .pv x0), (1, .ptr 0 0), (3, .pv (.lit (.slice none 0 0)))] [.box 26 [.pv x1, .pv x2, .pv x3, .pv x4, .pv x5]] ex e' h' :=
  body_rule f14_loop2 mixed f14_tab2 (e := E14b2a) (h := H14b2a) (by kernel_rfl) c14b2a rfl hn (by simp [E14b2a]) hh hd R
-- loop 2, objects before it: 2; paths: 3
def T14b2b : Tr := .say (.len 24 (.pv (.sym 6)) (.pv (.sym 7))) 1 (.alt (.say (.bin .lss 3 (.pv (.sym 0)) (.pv (.sym 7)) (.pv (.lit (.bool true)))) 0 (.say (.idx 24 (.pv (.sym 6)) (.pv (.sym 0)) (.cptr [.sym 8, .sym 9, .sym 10, .sym 11, .sym 12])) 5 (.call ⟨14, [.agg [.pv (.sym 8), .pv (.sym 9), .pv (.sym 10), .pv (.sym 11), .pv (.sym 12)]], [], .pv (.sym 13), []⟩ 1 (.alt (.say (.app 22 (.pv (.sym 1)) (.pv (.sym 13)) 14) 1 (.say (.bin .add 3 (.pv (.sym 0)) (.pv (.lit (.int .i64 1))) (.pv (.sym 15))) 1 (.code .normal [(5, .pv (.sym 15)), (1, .ptr 0 0), (3, .tsym 2 14)] [.box 26 [.pv (.sym 2), .pv (.sym 3), .pv (.sym 4), .pv (.sym 5), .pv (.sym 6)], .dead, .tok 3 1 (symBase + 14)]))) (.say (.app0 22 (.pv (.sym 1)) (.pv (.sym 13))) 0 (.say (.bin .add 3 (.pv (.sym 0)) (.pv (.lit (.int .i64 1))) (.pv (.sym 14))) 1 (.code .normal [(5, .pv (.sym 14)), (1, .ptr 0 0), (3, .tsym 1 1)] [.box 26 [.pv (.sym 2), .pv (.sym 3), .pv (.sym 4), .pv (.sym 5), .pv (.sym 6)], .tok 3 1 (symBase + 1)]))))))) (.say (.bin .lss 3 (.pv (.sym 0)) (.pv (.sym 7)) (.pv (.lit (.bool false)))) 0 (.code (.exit 2) [(3, .tsym 1 1)] [.box 26 [.pv (.sym 2), .pv (.sym 3), .pv (.sym 4), .pv (.sym 5), .pv (.sym 6)], .tok 3 1 (symBase + 1)])))
def E14b2b : Env := [(5, .pv (.sym 0)), (1, .ptr 0 0), (3, .tsym 1 1)]
def H14b2b : List AObj := [.box 26 [.pv (.sym 2), .pv (.sym 3), .pv (.sym 4), .pv (.sym 5), .pv (.sym 6)], .tok 3 1 (symBase + 1)]
set_option maxRecDepth 100000 in
theorem c14b2b : chk Tryz.prog (leafC Tryz.prog Tryz.f14 t14 (lb Tryz.f14 2) 2 E14b2b H14b2b) T14b2b 7 [] [] [] = true := by kernel_rfl
theorem L14b2b (x0 : PV) (x1 : List (List PV)) (x2 : PV) (x3 : PV) (x4 : PV) (x5 : PV) (x6 : PV) (hn : NSL [x0, .rows x1, x2, x3, x4, x5, x6]) (hh : TsH (nm [x0, .rows x1, x2, x3, x4, x5, x6]) H14b2b) {ex : AExit} {e' : Env} {h' : List AObj} (hd : Den Tryz.prog Tryz.f14 T14b2b [x0, .rows x1, x2, x3, x4, x5, x6] (.code ex e' h')) (R : Nat → PV) :
    CodeB R Tryz.prog Tryz.f14.ntmps (lb Tryz.f14 2) 2 [(5, .pv x0), (1, .ptr 0 0), (3, .trows 1 x1)] [.box 26 [.pv x2, .pv x3, .pv x4, .pv x5, .pv x6], .tok 3 1 x1.length] ex e' h' :=
  body_rule f14_loop2 mixed f14_tab2 (e := E14b2b) (h := H14b2b) (by kernel_rfl) c14b2b rfl hn (by simp [E14b2b]) hh hd R
-- loop 2, objects before it: 1; paths: 3
def T14b2c : Tr := .say (.len 24 (.pv (.sym 6)) (.pv (.sym 7))) 1 (.alt (.say (.bin .lss 3 (.pv (.sym 0)) (.pv (.sym 7)) (.pv (.lit (.bool true)))) 0 (.say (.idx 24 (.pv (.sym 6)) (.pv (.sym 0)) (.cptr [.sym 8, .sym 9, .sym 10, .sym 11, .sym 12])) 5 (.call ⟨14, [.agg [.pv (.sym 8), .pv (.sym 9), .pv (.sym 10), .pv (.sym 11), .pv (.sym 12)]], [], .pv (.sym 13), []⟩ 1 (.alt (.say (.app 22 (.pv (.sym 1)) (.pv (.sym 13)) 14) 1 (.say (.bin .add 3 (.pv (.sym 0)) (.pv (.lit (.int .i64 1))) (.pv (.sym 15))) 1 (.code .normal [(5, .pv (.sym 15)), (1, .ptr 0 0), (3, .tsym 1 14)] [.box 26 [.pv (.sym 2), .pv (.sym 3), .pv (.sym 4), .pv (.sym 5), .pv (.sym 6)], .tok 3 1 (symBase + 14)]))) (.say (.app0 22 (.pv (.sym 1)) (.pv (.sym 13))) 0 (.say (.bin .add 3 (.pv (.sym 0)) (.pv (.lit (.int .i64 1))) (.pv (.sym 14))) 1 (.code .normal [(5, .pv (.sym 14)), (1, .ptr 0 0), (3, .tsym 1 1)] [.box 26 [.pv (.sym 2), .pv (.sym 3), .pv (.sym 4), .pv (.sym 5), .pv (.sym 6)], .tok 3 1 (symBase + 1)]))))))) (.say (.bin .lss 3 (.pv (.sym 0)) (.pv (.sym 7)) (.pv (.lit (.bool false)))) 0 (.code (.exit 2) [(3, .tsym 1 1)] [.box 26 [.pv (.sym 2), .pv (.sym 3), .pv (.sym 4), .pv (.sym 5), .pv (.sym 6)], .tok 3 1 (symBase + 1)])))
def E14b2c : Env := [(5, .pv (.sym 0)), (1, .ptr 0 0), (3, .tsym 1 1)]
def H14b2c : List AObj := [.box 26 [.pv (.sym 2), .pv (.sym 3), .pv (.sym 4), .pv (.sym 5), .pv (.sym 6)], .tok 3 1 (symBase + 1)]
set_option maxRecDepth 100000 in
theorem c14b2c : chk Tryz.prog (leafC Tryz.prog Tryz.f14 t14 (lb Tryz.f14 2) 1 E14b2c H14b2c) T14b2c 7 [] [] [] = true := by kernel_rfl
theorem L14b2c (x0 : PV) (x1 : List (List PV)) (x2 : PV) (x3 : PV) (x4 : PV) (x5 : PV) (x6 : PV) (hn : NSL [x0, .rows x1, x2, x3, x4, x5, x6]) (hh : TsH (nm [x0, .rows x1, x2, x3, x4, x5, x6]) H14b2c) {ex : AExit} {e' : Env} {h' : List AObj} (hd : Den Tryz.prog Tryz.f14 T14b2c [x0, .rows x1, x2, x3, x4, x5, x6] (.code ex e' h')) (R : Nat → PV) :
    CodeB R Tryz.prog Tryz.f14.ntmps (lb Tryz.f14 2) 1 [(5, .pv x0), (1, .ptr 0 0), (3, .trows 1 x1)] [.box 26 [.pv x2, .pv x3, .pv x4, .pv x5, .pv x6], .tok 3 1 x1.length] ex e' h' :=
  body_rule f14_loop2 mixed f14_tab2 (e := E14b2c) (h := H14b2c) (by kernel_rfl) c14b2c rfl hn (by simp [E14b2c]) hh hd R
-- loop 2, objects before it: 2; paths: 3
def T14b2d : Tr := .say (.len 24 (.pv (.sym 6)) (.pv (.sym 7))) 1 (.alt (.say (.bin .lss 3 (.pv (.sym 0)) (.pv (.sym 7)) (.pv (.lit (.bool true)))) 0 (.say (.idx 24 (.pv (.sym 6)) (.pv (.sym 0)) (.cptr [.sym 8, .sym 9, .sym 10, .sym 11, .sym 12])) 5 (.call ⟨14, [.agg [.pv (.sym 8), .pv (.sym 9), .pv (.sym 10), .pv (.sym 11), .pv (.sym 12)]], [], .pv (.sym 13), []⟩ 1 (.alt (.say (.app 22 (.pv (.sym 1)) (.pv (.sym 13)) 14) 1 (.say (.bin .add 3 (.pv (.sym 0)) (.pv (.lit (.int .i64 1))) (.pv (.sym 15))) 1 (.code .normal [(5, .pv (.sym 15)), (1, .ptr 0 0), (3, .tsym 2 14)] [.box 26 [.pv (.sym 2), .pv (.sym 3), .pv (.sym 4), .pv (.sym 5), .pv (.sym 6)], .dead, .tok 3 1 (symBase + 14)]))) (.say (.app0 22 (.pv (.sym 1)) (.pv (.sym 13))) 0 (.say (.bin .add 3 (.pv (.sym 0)) (.pv (.lit (.int .i64 1))) (.pv (.sym 14))) 1 (.code .normal [(5, .pv (.sym 14)), (1, .ptr 0 0), (3, .tsym 2 1)] [.box 26 [.pv (.sym 2), .pv (.sym 3), .pv (.sym 4), .pv (.sym 5), .pv (.sym 6)], .dead, .tok 3 1 (symBase + 1)]))))))) (.say (.bin .lss 3 (.pv (.sym 0)) (.pv (.sym 7)) (.pv (.lit (.bool false)))) 0 (.code (.exit 2) [(3, .tsym 2 1)] [.box 26 [.pv (.sym 2), .pv (.sym 3), .pv (.sym 4), .pv (.sym 5), .pv (.sym 6)], .dead, .tok 3 1 (symBase + 1)])))
def E14b2d : Env := [(5, .pv (.sym 0)), (1, .ptr 0 0), (3, .tsym 2 1)]
def H14b2d : List AObj := [.box 26 [.pv (.sym 2), .pv (.sym 3), .pv (.sym 4), .pv (.sym 5), .pv (.sym 6)], .dead, .tok 3 1 (symBase + 1)]
set_option maxRecDepth 100000 in
theorem c14b2d : chk Tryz.prog (leafC Tryz.prog Tryz.f14 t14 (lb Tryz.f14 2) 2 E14b2d H14b2d) T14b2d 7 [] [] [] = true := by kernel_rfl
theorem L14b2d (x0 : PV) (x1 : List (List PV)) (x2 : PV) (x3 : PV) (x4 : PV) (x5 : PV) (x6 : PV) (hn : NSL [x0, .rows x1, x2, x3, x4, x5, x6]) (hh : TsH (nm [x0, .rows x1, x2, x3, x4, x5, x6]) H14b2d) {ex : AExit} {e' : Env} {h' : List AObj} (hd : Den Tryz.prog Tryz.f14 T14b2d [x0, .rows x1, x2, x3, x4, x5, x6] (.code ex e' h')) (R : Nat → PV) :
    CodeB R Tryz.prog Tryz.f14.ntmps (lb Tryz.f14 2) 2 [(5, .pv x0), (1, .ptr 0 0), (3, .trows 2 x1)] [.box 26 [.pv x2, .pv x3, .pv x4, .pv x5, .pv x6], .dead, .tok 3 1 x1.length] ex e' h' :=
  body_rule f14_loop2 mixed f14_tab2 (e := E14b2d) (h := H14b2d) (by kernel_rfl) c14b2d rfl hn (by simp [E14b2d]) hh hd R
/-! 17: cognate/trees.at -/
def t17 : FT where
  keep := []
  kb := fun
    | 0 => [10, 9, 8, 2, 4]
    | _ => []
  sd := fun
    | _ => []
theorem f17_at : Tryz.prog.funcs[17]? = some Tryz.f17 := by kernel_rfl
theorem f17_body : Tryz.f17.body.isSome = true := by kernel_rfl
theorem f17_tab : tabOk t17.sd t17.sx (bodyOf Tryz.f17) = true := by kernel_rfl
-- paths: 3
def T17 : Tr := .say (.len 22 (.pv (.sym 4)) (.pv (.sym 5))) 1 (.alt (.blk ⟨0, [(10, .pv (.lit (.int .i64 0))), (9, .pv (.sym 5)), (8, .pv (.sym 4)), (2, .ptr 0 0), (4, .ptr 1 0)], [.box 29 [.pv (.sym 0), .pv (.sym 1), .pv (.sym 2), .pv (.sym 3)], .box 29 [.pv (.lit (.int .i64 0)), .pv (.lit (.int .i64 0)), .pv (.lit (.string ⟨#[]⟩)), .pv (.lit (.slice none 0 0))]], .normal, [(2, .ptr 0 0), (4, .ptr 1 0)], [.box 29 [.pv (.sym 6), .pv (.sym 7), .pv (.sym 8), .pv (.sym 9)], .box 29 [.pv (.lit (.int .i64 0)), .pv (.lit (.int .i64 0)), .pv (.lit (.string ⟨#[]⟩)), .pv (.lit (.slice none 0 0))]]⟩ 4 (.ret (.tup [.agg [.pv (.sym 6), .pv (.sym 7), .pv (.sym 8), .pv (.sym 9)], .pv (.lit (.bool true))]) [])) (.alt (.blk ⟨0, [(10, .pv (.lit (.int .i64 0))), (9, .pv (.sym 5)), (8, .pv (.sym 4)), (2, .ptr 0 0), (4, .ptr 1 0)], [.box 29 [.pv (.sym 0), .pv (.sym 1), .pv (.sym 2), .pv (.sym 3)], .box 29 [.pv (.lit (.int .i64 0)), .pv (.lit (.int .i64 0)), .pv (.lit (.string ⟨#[]⟩)), .pv (.lit (.slice none 0 0))]], .ret, [(4, .ptr 1 0), (5, .pv (.lit (.bool true)))], [.box 29 [.pv (.sym 6), .pv (.sym 7), .pv (.sym 8), .pv (.sym 9)], .box 29 [.pv (.lit (.int .i64 0)), .pv (.lit (.int .i64 0)), .pv (.lit (.string ⟨#[]⟩)), .pv (.lit (.slice none 0 0))]]⟩ 4 (.ret (.tup [.agg [.pv (.lit (.int .i64 0)), .pv (.lit (.int .i64 0)), .pv (.lit (.string ⟨#[]⟩)), .pv (.lit (.slice none 0 0))], .pv (.lit (.bool true))]) [])) (.blk ⟨0, [(10, .pv (.lit (.int .i64 0))), (9, .pv (.sym 5)), (8, .pv (.sym 4)), (2, .ptr 0 0), (4, .ptr 1 0)], [.box 29 [.pv (.sym 0), .pv (.sym 1), .pv (.sym 2), .pv (.sym 3)], .box 29 [.pv (.lit (.int .i64 0)), .pv (.lit (.int .i64 0)), .pv (.lit (.string ⟨#[]⟩)), .pv (.lit (.slice none 0 0))]], .ret, [(4, .ptr 1 0), (5, .pv (.lit (.bool false)))], [.box 29 [.pv (.sym 6), .pv (.sym 7), .pv (.sym 8), .pv (.sym 9)], .box 29 [.pv (.lit (.int .i64 0)), .pv (.lit (.int .i64 0)), .pv (.lit (.string ⟨#[]⟩)), .pv (.lit (.slice none 0 0))]]⟩ 4 (.ret (.tup [.agg [.pv (.lit (.int .i64 0)), .pv (.lit (.int .i64 0)), .pv (.lit (.string ⟨#[]⟩)), .pv (.lit (.slice none 0 0))], .pv (.lit (.bool false))]) []))))
def A17 : List AV := [.agg [.pv (.sym 0), .pv (.sym 1), .pv (.sym 2), .pv (.sym 3)], .pv (.sym 4)]
def H17 : List AObj := []
set_option maxRecDepth 100000 in
theorem c17 : chk Tryz.prog (leafF Tryz.prog t17 17 A17 H17) T17 5 [] [] [] = true := by kernel_rfl
theorem F17 (x0 : PV) (x1 : PV) (x2 : PV) (x3 : PV) (x4 : PV) (hn : NSL [x0, x1, x2, x3, x4]) {v : AV} {h' : List AObj} (hd : Den Tryz.prog Tryz.f17 T17 [x0, x1, x2, x3, x4] (.ret v h')) :
    Sem Tryz.prog 17 [.agg [.pv x0, .pv x1, .pv x2, .pv x3], .pv x4] [] v h' :=
  fun_rule f17_at f17_body mixed f17_tab (args := A17) (h := H17) (by kernel_rfl) c17 rfl hn (by simp [A17]) (by trivial) hd
theorem f17_loop0 : isLoop1 (subs 0 (bodyOf Tryz.f17)) = true := by kernel_rfl
theorem f17_tab0 : tabOk t17.sd t17.sx (lb Tryz.f17 0) = true := by kernel_rfl
-- loop 0, objects before it: 2; paths: 4
def T17b0a : Tr := .alt (.say (.bin .lss 3 (.pv (.sym 0)) (.pv (.sym 1)) (.pv (.lit (.bool true)))) 0 (.say (.idx 22 (.pv (.sym 2)) (.pv (.sym 0)) (.cptr [.sym 7])) 1 (.alt (.say (.bin .lss 3 (.pv (.sym 7)) (.pv (.lit (.int .i64 0))) (.pv (.lit (.bool true)))) 0 (.code .ret [(4, .ptr 1 0), (5, .pv (.lit (.bool false)))] [.box 29 [.pv (.sym 3), .pv (.sym 4), .pv (.sym 5), .pv (.sym 6)], .box 29 [.pv (.lit (.int .i64 0)), .pv (.lit (.int .i64 0)), .pv (.lit (.string ⟨#[]⟩)), .pv (.lit (.slice none 0 0))]])) (.say (.bin .lss 3 (.pv (.sym 7)) (.pv (.lit (.int .i64 0))) (.pv (.lit (.bool false)))) 0 (.say (.len 27 (.pv (.sym 6)) (.pv (.sym 8))) 1 (.alt (.say (.bin .geq 3 (.pv (.sym 7)) (.pv (.sym 8)) (.pv (.lit (.bool true)))) 0 (.code .ret [(4, .ptr 1 0), (5, .pv (.lit (.bool false)))] [.box 29 [.pv (.sym 3), .pv (.sym 4), .pv (.sym 5), .pv (.sym 6)], .box 29 [.pv (.lit (.int .i64 0)), .pv (.lit (.int .i64 0)), .pv (.lit (.string ⟨#[]⟩)), .pv (.lit (.slice none 0 0))]])) (.say (.bin .geq 3 (.pv (.sym 7)) (.pv (.sym 8)) (.pv (.lit (.bool false)))) 0 (.say (.idx 27 (.pv (.sym 6)) (.pv (.sym 7)) (.cptr [.sym 9, .sym 10, .sym 11, .sym 12])) 4 (.say (.bin .add 3 (.pv (.sym 0)) (.pv (.lit (.int .i64 1))) (.pv (.sym 13))) 1 (.code .normal [(10, .pv (.sym 13)), (9, .pv (.sym 1)), (8, .pv (.sym 2)), (2, .ptr 0 0), (4, .ptr 1 0)] [.box 29 [.pv (.sym 9), .pv (.sym 10), .pv (.sym 11), .pv (.sym 12)], .box 29 [.pv (.lit (.int .i64 0)), .pv (.lit (.int .i64 0)), .pv (.lit (.string ⟨#[]⟩)), .pv (.lit (.slice none 0 0))]])))))))))) (.say (.bin .lss 3 (.pv (.sym 0)) (.pv (.sym 1)) (.pv (.lit (.bool false)))) 0 (.code (.exit 0) [(2, .ptr 0 0), (4, .ptr 1 0)] [.box 29 [.pv (.sym 3), .pv (.sym 4), .pv (.sym 5), .pv (.sym 6)], .box 29 [.pv (.lit (.int .i64 0)), .pv (.lit (.int .i64 0)), .pv (.lit (.string ⟨#[]⟩)), .pv (.lit (.slice none 0 0))]]))
def E17b0a : Env := [(10, .pv (.sym 0)), (9, .pv (.sym 1)), (8, .pv (.sym 2)), (2, .ptr 0 0), (4, .ptr 1 0)]
def H17b0a : List AObj := [.box 29 [.pv (.sym 3), .pv (.sym 4), .pv (.sym 5), .pv (.sym 6)], .box 29 [.pv (.lit (.int .i64 0)), .pv (.lit (.int .i64 0)), .pv (.lit (.string ⟨#[]⟩)), .pv (.lit (.slice none 0 0))]]
set_option maxRecDepth 100000 in
theorem c17b0a : chk Tryz.prog (leafC Tryz.prog Tryz.f17 t17 (lb Tryz.f17 0) 2 E17b0a H17b0a) T17b0a 7 [] [] [] = true := by kernel_rfl
theorem L17b0a (x0 : PV) (x1 : PV) (x2 : PV) (x3 : PV) (x4 : PV) (x5 : PV) (x6 : PV) (hn : NSL [x0, x1, x2, x3, x4, x5, x6]) (hh : TsH (nm [x0, x1, x2, x3, x4, x5, x6]) H17b0a) {ex : AExit} {e' : Env} {h' : List AObj} (hd : Den Tryz.prog Tryz.f17 T17b0a [x0, x1, x2, x3, x4, x5, x6] (.code ex e' h')) (R : Nat → PV) :
    CodeB R Tryz.prog Tryz.f17.ntmps (lb Tryz.f17 0) 2 [(10, .pv x0), (9, .pv x1), (8, .pv x2), (2, .ptr 0 0), (4, .ptr 1 0)] [.box 29 [.pv x3, .pv x4, .pv x5, .pv x6], .box 29 [.pv (.lit (.int .i64 0)), .pv (.lit (.int .i64 0)), .pv (.lit (.string ⟨#[]⟩)), .pv (.lit (.slice none 0 0))]] ex e' h' :=
  body_rule f17_loop0 mixed f17_tab0 (e := E17b0a) (h := H17b0a) (by kernel_rfl) c17b0a rfl hn (by simp [E17b0a]) hh hd R
/-! 20: cognate/cognateref27.At -/
def t20 : FT where
  keep := []
  kb := fun
    | _ => []
  sd := fun
    | 3 => [(0, true), (1, true), (2, true), (3, true), (4, true), (5, true), (6, true), (7, true), (8, true), (9, true), (10, true), (11, true), (12, true)]
    | 5 => [(0, true), (1, true), (2, true), (3, true), (4, true), (5, true), (6, true), (7, true), (8, true), (9, false), (10, true), (11, true), (12, false), (13, true)]
    | _ => []
theorem f20_at : Tryz.prog.funcs[20]? = some Tryz.f20 := by kernel_rfl
theorem f20_body : Tryz.f20.body.isSome = true := by kernel_rfl
theorem f20_tab : tabOk t20.sd t20.sx (bodyOf Tryz.f20) = true := by kernel_rfl
-- paths: 5
def T20 : Tr := .say (.len 22 (.pv (.sym 4)) (.pv (.sym 5))) 1 (.alt (.say (.bin .eql 3 (.pv (.sym 5)) (.pv (.lit (.int .i64 0))) (.pv (.lit (.bool true)))) 0 (.ret (.tup [.agg [.pv (.sym 0), .pv (.sym 1), .pv (.sym 2), .pv (.sym 3)], .pv (.lit (.bool true))]) [])) (.say (.bin .eql 3 (.pv (.sym 5)) (.pv (.lit (.int .i64 0))) (.pv (.lit (.bool false)))) 0 (.say (.idx 22 (.pv (.sym 4)) (.pv (.lit (.int .i64 0))) (.cptr [.sym 6])) 1 (.alt (.say (.bin .lss 3 (.pv (.sym 6)) (.pv (.lit (.int .i64 0))) (.pv (.lit (.bool true)))) 0 (.ret (.tup [.agg [.pv (.lit (.int .i64 0)), .pv (.lit (.int .i64 0)), .pv (.lit (.string ⟨#[]⟩)), .pv (.lit (.slice none 0 0))], .pv (.lit (.bool false))]) [])) (.say (.bin .lss 3 (.pv (.sym 6)) (.pv (.lit (.int .i64 0))) (.pv (.lit (.bool false)))) 0 (.say (.len 27 (.pv (.sym 3)) (.pv (.sym 7))) 1 (.alt (.say (.bin .geq 3 (.pv (.sym 6)) (.pv (.sym 7)) (.pv (.lit (.bool true)))) 0 (.ret (.tup [.agg [.pv (.lit (.int .i64 0)), .pv (.lit (.int .i64 0)), .pv (.lit (.string ⟨#[]⟩)), .pv (.lit (.slice none 0 0))], .pv (.lit (.bool false))]) [])) (.say (.bin .geq 3 (.pv (.sym 6)) (.pv (.sym 7)) (.pv (.lit (.bool false)))) 0 (.say (.idx 27 (.pv (.sym 3)) (.pv (.sym 6)) (.cptr [.sym 8, .sym 9, .sym 10, .sym 11])) 4 (.say (.slc 22 (.pv (.sym 4)) (some (.pv (.lit (.int .i64 1)))) none (.pv (.sym 12))) 1 (.alt (.call ⟨20, [.agg [.pv (.sym 8), .pv (.sym 9), .pv (.sym 10), .pv (.sym 11)], .pv (.sym 12)], [], .tup [.agg [.pv (.sym 13), .pv (.sym 14), .pv (.sym 15), .pv (.sym 16)], .pv (.lit (.bool true))], []⟩ 4 (.ret (.tup [.agg [.pv (.sym 13), .pv (.sym 14), .pv (.sym 15), .pv (.sym 16)], .pv (.lit (.bool true))]) [])) (.call ⟨20, [.agg [.pv (.sym 8), .pv (.sym 9), .pv (.sym 10), .pv (.sym 11)], .pv (.sym 12)], [], .tup [.agg [.pv (.sym 13), .pv (.sym 14), .pv (.sym 15), .pv (.sym 16)], .pv (.lit (.bool false))], []⟩ 4 (.ret (.tup [.agg [.pv (.sym 13), .pv (.sym 14), .pv (.sym 15), .pv (.sym 16)], .pv (.lit (.bool false))]) [])))))))))))))
def A20 : List AV := [.agg [.pv (.sym 0), .pv (.sym 1), .pv (.sym 2), .pv (.sym 3)], .pv (.sym 4)]
def H20 : List AObj := []
set_option maxRecDepth 100000 in
theorem c20 : chk Tryz.prog (leafF Tryz.prog t20 20 A20 H20) T20 5 [] [] [] = true := by kernel_rfl
theorem F20 (x0 : PV) (x1 : PV) (x2 : PV) (x3 : PV) (x4 : PV) (hn : NSL [x0, x1, x2, x3, x4]) {v : AV} {h' : List AObj} (hd : Den Tryz.prog Tryz.f20 T20 [x0, x1, x2, x3, x4] (.ret v h')) :
    Sem Tryz.prog 20 [.agg [.pv x0, .pv x1, .pv x2, .pv x3], .pv x4] [] v h' :=
  fun_rule f20_at f20_body mixed f20_tab (args := A20) (h := H20) (by kernel_rfl) c20 rfl hn (by simp [A20]) (by trivial) hd
/-! 22: slices.Clone[[]int,int] -/
def t22 : FT where
  keep := []
  kb := fun
    | _ => []
  sd := fun
    | _ => []
theorem f22_at : Tryz.prog.funcs[22]? = some Tryz.f22 := by kernel_rfl
theorem f22_body : Tryz.f22.body.isSome = true := by kernel_rfl
theorem f22_tab : tabOk t22.sd t22.sx (bodyOf Tryz.f22) = true := by kernel_rfl
-- paths: 3
def T22 : Tr := .alt (.say (.bin .eql 22 (.pv (.sym 0)) (.pv (.lit (.slice none 0 0))) (.pv (.lit (.bool true)))) 0 (.ret (.pv (.lit (.slice none 0 0))) [])) (.say (.bin .eql 22 (.pv (.sym 0)) (.pv (.lit (.slice none 0 0))) (.pv (.lit (.bool false)))) 0 (.alt (.say (.app 22 (.pv (.rows [])) (.pv (.sym 0)) 1) 1 (.ret (.tsym 0 1) [.tok 3 1 (symBase + 1)])) (.say (.app0 22 (.pv (.rows [])) (.pv (.sym 0))) 0 (.ret (.trows 0 []) [.tok 3 1 0]))))
def A22 : List AV := [.pv (.sym 0)]
def H22 : List AObj := []
set_option maxRecDepth 100000 in
theorem c22 : chk Tryz.prog (leafF Tryz.prog t22 22 A22 H22) T22 1 [] [] [] = true := by kernel_rfl
theorem F22 (x0 : PV) (hn : NSL [x0]) {v : AV} {h' : List AObj} (hd : Den Tryz.prog Tryz.f22 T22 [x0] (.ret v h')) :
    Sem Tryz.prog 22 [.pv x0] [] v h' :=
  fun_rule f22_at f22_body mixed f22_tab (args := A22) (h := H22) (by kernel_rfl) c22 rfl hn (by simp [A22]) (by trivial) hd
/-! 23: cognate/trees.Same$1 -/
def t23 : FT where
  keep := []
  kb := fun
    | _ => []
  sd := fun
    | _ => []
theorem f23_at : Tryz.prog.funcs[23]? = some Tryz.f23 := by kernel_rfl
theorem f23_body : Tryz.f23.body.isSome = true := by kernel_rfl
theorem f23_tab : tabOk t23.sd t23.sx (bodyOf Tryz.f23) = true := by kernel_rfl
-- paths: 5
def T23 : Tr := .alt (.say (.bin .eql 3 (.pv (.sym 0)) (.pv (.sym 8)) (.pv (.lit (.bool true)))) 0 (.alt (.say (.bin .eql 9 (.pv (.sym 1)) (.pv (.sym 9)) (.pv (.lit (.bool true)))) 0 (.alt (.say (.bin .eql 2 (.pv (.sym 2)) (.pv (.sym 10)) (.pv (.lit (.bool true)))) 0 (.alt (.call ⟨11, [.agg [.pv (.sym 3), .pv (.sym 4), .pv (.sym 5), .pv (.sym 6), .pv (.sym 7)], .agg [.pv (.sym 11), .pv (.sym 12), .pv (.sym 13), .pv (.sym 14), .pv (.sym 15)]], [], .pv (.lit (.bool true)), []⟩ 0 (.ret (.pv (.lit (.bool true))) [])) (.call ⟨11, [.agg [.pv (.sym 3), .pv (.sym 4), .pv (.sym 5), .pv (.sym 6), .pv (.sym 7)], .agg [.pv (.sym 11), .pv (.sym 12), .pv (.sym 13), .pv (.sym 14), .pv (.sym 15)]], [], .pv (.lit (.bool false)), []⟩ 0 (.ret (.pv (.lit (.bool false))) [])))) (.say (.bin .eql 2 (.pv (.sym 2)) (.pv (.sym 10)) (.pv (.lit (.bool false)))) 0 (.ret (.pv (.lit (.bool false))) [])))) (.say (.bin .eql 9 (.pv (.sym 1)) (.pv (.sym 9)) (.pv (.lit (.bool false)))) 0 (.ret (.pv (.lit (.bool false))) [])))) (.say (.bin .eql 3 (.pv (.sym 0)) (.pv (.sym 8)) (.pv (.lit (.bool false)))) 0 (.ret (.pv (.lit (.bool false))) []))
def A23 : List AV := [.agg [.pv (.sym 0), .pv (.sym 1), .pv (.sym 2), .pv (.sym 3), .pv (.sym 4), .pv (.sym 5), .pv (.sym 6), .pv (.sym 7)], .agg [.pv (.sym 8), .pv (.sym 9), .pv (.sym 10), .pv (.sym 11), .pv (.sym 12), .pv (.sym 13), .pv (.sym 14), .pv (.sym 15)]]
def H23 : List AObj := []
set_option maxRecDepth 100000 in
theorem c23 : chk Tryz.prog (leafF Tryz.prog t23 23 A23 H23) T23 16 [] [] [] = true := by kernel_rfl
theorem F23 (x0 : PV) (x1 : PV) (x2 : PV) (x3 : PV) (x4 : PV) (x5 : PV) (x6 : PV) (x7 : PV) (x8 : PV) (x9 : PV) (x10 : PV) (x11 : PV) (x12 : PV) (x13 : PV) (x14 : PV) (x15 : PV) (hn : NSL [x0, x1, x2, x3, x4, x5, x6, x7, x8, x9, x10, x11, x12, x13, x14, x15]) {v : AV} {h' : List AObj} (hd : Den Tryz.prog Tryz.f23 T23 [x0, x1, x2, x3, x4, x5, x6, x7, x8, x9, x10, x11, x12, x13, x14, x15] (.ret v h')) :
    Sem Tryz.prog 23 [.agg [.pv x0, .pv x1, .pv x2, .pv x3, .pv x4, .pv x5, .pv x6, .pv x7], .agg [.pv x8, .pv x9, .pv x10, .pv x11, .pv x12, .pv x13, .pv x14, .pv x15]] [] v h' :=
  fun_rule f23_at f23_body mixed f23_tab (args := A23) (h := H23) (by kernel_rfl) c23 rfl hn (by simp [A23]) (by trivial) hd
/-! 24: slices.Equal[[]int,int] -/
def t24 : FT where
  keep := []
  kb := fun
    | 0 => [13, 12, 0, 1]
    | _ => []
  sd := fun
    | 6 => [(0, true), (1, true), (2, true), (3, true), (4, true), (5, true), (6, true), (7, true), (8, true)]
    | _ => []
theorem f24_at : Tryz.prog.funcs[24]? = some Tryz.f24 := by kernel_rfl
theorem f24_body : Tryz.f24.body.isSome = true := by kernel_rfl
theorem f24_tab : tabOk t24.sd t24.sx (bodyOf Tryz.f24) = true := by kernel_rfl
-- paths: 4
def T24 : Tr := .say (.len 22 (.pv (.sym 0)) (.pv (.sym 2))) 1 (.say (.len 22 (.pv (.sym 1)) (.pv (.sym 3))) 1 (.alt (.say (.bin .neq 3 (.pv (.sym 2)) (.pv (.sym 3)) (.pv (.lit (.bool true)))) 0 (.ret (.pv (.lit (.bool false))) [])) (.say (.bin .neq 3 (.pv (.sym 2)) (.pv (.sym 3)) (.pv (.lit (.bool false)))) 0 (.alt (.blk ⟨0, [(13, .pv (.lit (.int .i64 0))), (12, .pv (.sym 2)), (0, .pv (.sym 0)), (1, .pv (.sym 1))], [], .normal, [], []⟩ 0 (.ret (.pv (.lit (.bool true))) [])) (.alt (.blk ⟨0, [(13, .pv (.lit (.int .i64 0))), (12, .pv (.sym 2)), (0, .pv (.sym 0)), (1, .pv (.sym 1))], [], .ret, [(4, .pv (.lit (.bool true)))], []⟩ 0 (.ret (.pv (.lit (.bool true))) [])) (.blk ⟨0, [(13, .pv (.lit (.int .i64 0))), (12, .pv (.sym 2)), (0, .pv (.sym 0)), (1, .pv (.sym 1))], [], .ret, [(4, .pv (.lit (.bool false)))], []⟩ 0 (.ret (.pv (.lit (.bool false))) [])))))))
def A24 : List AV := [.pv (.sym 0), .pv (.sym 1)]
def H24 : List AObj := []
set_option maxRecDepth 100000 in
theorem c24 : chk Tryz.prog (leafF Tryz.prog t24 24 A24 H24) T24 2 [] [] [] = true := by kernel_rfl
theorem F24 (x0 : PV) (x1 : PV) (hn : NSL [x0, x1]) {v : AV} {h' : List AObj} (hd : Den Tryz.prog Tryz.f24 T24 [x0, x1] (.ret v h')) :
    Sem Tryz.prog 24 [.pv x0, .pv x1] [] v h' :=
  fun_rule f24_at f24_body mixed f24_tab (args := A24) (h := H24) (by kernel_rfl) c24 rfl hn (by simp [A24]) (by trivial) hd
theorem f24_loop0 : isLoop1 (subs 0 (bodyOf Tryz.f24)) = true := by kernel_rfl
theorem f24_tab0 : tabOk t24.sd t24.sx (lb Tryz.f24 0) = true := by kernel_rfl
-- loop 0, objects before it: 0; paths: 3
def T24b0a : Tr := .alt (.say (.bin .lss 3 (.pv (.sym 0)) (.pv (.sym 1)) (.pv (.lit (.bool true)))) 0 (.say (.idx 22 (.pv (.sym 2)) (.pv (.sym 0)) (.cptr [.sym 4])) 1 (.say (.idx 22 (.pv (.sym 3)) (.pv (.sym 0)) (.cptr [.sym 5])) 1 (.alt (.say (.bin .neq 3 (.pv (.sym 4)) (.pv (.sym 5)) (.pv (.lit (.bool true)))) 0 (.code .ret [(4, .pv (.lit (.bool false)))] [])) (.say (.bin .neq 3 (.pv (.sym 4)) (.pv (.sym 5)) (.pv (.lit (.bool false)))) 0 (.say (.bin .add 3 (.pv (.sym 0)) (.pv (.lit (.int .i64 1))) (.pv (.sym 6))) 1 (.code .normal [(13, .pv (.sym 6)), (12, .pv (.sym 1)), (0, .pv (.sym 2)), (1, .pv (.sym 3))] []))))))) (.say (.bin .lss 3 (.pv (.sym 0)) (.pv (.sym 1)) (.pv (.lit (.bool false)))) 0 (.code (.exit 0) [] []))
def E24b0a : Env := [(13, .pv (.sym 0)), (12, .pv (.sym 1)), (0, .pv (.sym 2)), (1, .pv (.sym 3))]
def H24b0a : List AObj := []
set_option maxRecDepth 100000 in
theorem c24b0a : chk Tryz.prog (leafC Tryz.prog Tryz.f24 t24 (lb Tryz.f24 0) 0 E24b0a H24b0a) T24b0a 4 [] [] [] = true := by kernel_rfl
theorem L24b0a (x0 : PV) (x1 : PV) (x2 : PV) (x3 : PV) (hn : NSL [x0, x1, x2, x3]) {ex : AExit} {e' : Env} {h' : List AObj} (hd : Den Tryz.prog Tryz.f24 T24b0a [x0, x1, x2, x3] (.code ex e' h')) (R : Nat → PV) :
    CodeB R Tryz.prog Tryz.f24.ntmps (lb Tryz.f24 0) 0 [(13, .pv x0), (12, .pv x1), (0, .pv x2), (1, .pv x3)] [] ex e' h' :=
  body_rule f24_loop0 mixed f24_tab0 (e := E24b0a) (h := H24b0a) (by kernel_rfl) c24b0a rfl hn (by simp [E24b0a]) (by trivial) hd R
/-! 27: cognate/cognateref27.ints -/
def t27 : FT where
  keep := []
  kb := fun
    | 0 => [5, 0, 1]
    | _ => []
  sd := fun
    | 6 => [(0, true), (1, true), (2, true), (3, true), (4, true), (5, true), (6, true), (7, true), (8, true)]
    | _ => []
theorem f27_at : Tryz.prog.funcs[27]? = some Tryz.f27 := by kernel_rfl
theorem f27_body : Tryz.f27.body.isSome = true := by kernel_rfl
theorem f27_tab : tabOk t27.sd t27.sx (bodyOf Tryz.f27) = true := by kernel_rfl
-- paths: 4
def T27 : Tr := .say (.len 22 (.pv (.sym 0)) (.pv (.sym 2))) 1 (.say (.len 22 (.pv (.sym 1)) (.pv (.sym 3))) 1 (.alt (.say (.bin .neq 3 (.pv (.sym 2)) (.pv (.sym 3)) (.pv (.lit (.bool true)))) 0 (.ret (.pv (.lit (.bool false))) [])) (.say (.bin .neq 3 (.pv (.sym 2)) (.pv (.sym 3)) (.pv (.lit (.bool false)))) 0 (.alt (.blk ⟨0, [(5, .pv (.lit (.int .i64 0))), (0, .pv (.sym 0)), (1, .pv (.sym 1))], [], .normal, [], []⟩ 0 (.ret (.pv (.lit (.bool true))) [])) (.alt (.blk ⟨0, [(5, .pv (.lit (.int .i64 0))), (0, .pv (.sym 0)), (1, .pv (.sym 1))], [], .ret, [(4, .pv (.lit (.bool true)))], []⟩ 0 (.ret (.pv (.lit (.bool true))) [])) (.blk ⟨0, [(5, .pv (.lit (.int .i64 0))), (0, .pv (.sym 0)), (1, .pv (.sym 1))], [], .ret, [(4, .pv (.lit (.bool false)))], []⟩ 0 (.ret (.pv (.lit (.bool false))) [])))))))
def A27 : List AV := [.pv (.sym 0), .pv (.sym 1)]
def H27 : List AObj := []
set_option maxRecDepth 100000 in
theorem c27 : chk Tryz.prog (leafF Tryz.prog t27 27 A27 H27) T27 2 [] [] [] = true := by kernel_rfl
theorem F27 (x0 : PV) (x1 : PV) (hn : NSL [x0, x1]) {v : AV} {h' : List AObj} (hd : Den Tryz.prog Tryz.f27 T27 [x0, x1] (.ret v h')) :
    Sem Tryz.prog 27 [.pv x0, .pv x1] [] v h' :=
  fun_rule f27_at f27_body mixed f27_tab (args := A27) (h := H27) (by kernel_rfl) c27 rfl hn (by simp [A27]) (by trivial) hd
theorem f27_loop0 : isLoop1 (subs 0 (bodyOf Tryz.f27)) = true := by kernel_rfl
theorem f27_tab0 : tabOk t27.sd t27.sx (lb Tryz.f27 0) = true := by kernel_rfl
-- loop 0, objects before it: 0; paths: 3
def T27b0a : Tr := .say (.len 22 (.pv (.sym 1)) (.pv (.sym 3))) 1 (.alt (.say (.bin .lss 3 (.pv (.sym 0)) (.pv (.sym 3)) (.pv (.lit (.bool true)))) 0 (.say (.idx 22 (.pv (.sym 1)) (.pv (.sym 0)) (.cptr [.sym 4])) 1 (.say (.idx 22 (.pv (.sym 2)) (.pv (.sym 0)) (.cptr [.sym 5])) 1 (.alt (.say (.bin .neq 3 (.pv (.sym 4)) (.pv (.sym 5)) (.pv (.lit (.bool true)))) 0 (.code .ret [(4, .pv (.lit (.bool false)))] [])) (.say (.bin .neq 3 (.pv (.sym 4)) (.pv (.sym 5)) (.pv (.lit (.bool false)))) 0 (.say (.bin .add 3 (.pv (.sym 0)) (.pv (.lit (.int .i64 1))) (.pv (.sym 6))) 1 (.code .normal [(5, .pv (.sym 6)), (0, .pv (.sym 1)), (1, .pv (.sym 2))] []))))))) (.say (.bin .lss 3 (.pv (.sym 0)) (.pv (.sym 3)) (.pv (.lit (.bool false)))) 0 (.code (.exit 0) [] [])))
def E27b0a : Env := [(5, .pv (.sym 0)), (0, .pv (.sym 1)), (1, .pv (.sym 2))]
def H27b0a : List AObj := []
set_option maxRecDepth 100000 in
theorem c27b0a : chk Tryz.prog (leafC Tryz.prog Tryz.f27 t27 (lb Tryz.f27 0) 0 E27b0a H27b0a) T27b0a 3 [] [] [] = true := by kernel_rfl
theorem L27b0a (x0 : PV) (x1 : PV) (x2 : PV) (hn : NSL [x0, x1, x2]) {ex : AExit} {e' : Env} {h' : List AObj} (hd : Den Tryz.prog Tryz.f27 T27b0a [x0, x1, x2] (.code ex e' h')) (R : Nat → PV) :
    CodeB R Tryz.prog Tryz.f27.ntmps (lb Tryz.f27 0) 0 [(5, .pv x0), (0, .pv x1), (1, .pv x2)] [] ex e' h' :=
  body_rule f27_loop0 mixed f27_tab0 (e := E27b0a) (h := H27b0a) (by kernel_rfl) c27b0a rfl hn (by simp [E27b0a]) (by trivial) hd R
/-! 18: slices.IndexFunc[[]cognate/api.DCase,cognate/api.DCase] -/
def t18 : FT where
  keep := []
  kb := fun
    | 0 => [8, 7, 1, 0]
    | _ => []
  sd := fun
    | _ => []
theorem f18_at : Tryz.prog.funcs[18]? = some Tryz.f18 := by kernel_rfl
theorem f18_body : Tryz.f18.body.isSome = true := by kernel_rfl
theorem f18_tab : tabOk t18.sd t18.sx (bodyOf Tryz.f18) = true := by kernel_rfl
-- paths: 2
def T18a : Tr := .say (.len 23 (.pv (.sym 0)) (.pv (.sym 5))) 1 (.alt (.blk ⟨0, [(8, .pv (.lit (.int .i64 0))), (7, .pv (.sym 5)), (1, .fn 19 [.ptr 0 0]), (0, .pv (.sym 0))], [.box 29 [.pv (.sym 1), .pv (.sym 2), .pv (.sym 3), .pv (.sym 4)]], .normal, [], [.box 29 [.pv (.sym 1), .pv (.sym 2), .pv (.sym 3), .pv (.sym 4)]]⟩ 0 (.ret (.pv (.lit (.int .i64 (-1)))) [.box 29 [.pv (.sym 1), .pv (.sym 2), .pv (.sym 3), .pv (.sym 4)]])) (.blk ⟨0, [(8, .pv (.lit (.int .i64 0))), (7, .pv (.sym 5)), (1, .fn 19 [.ptr 0 0]), (0, .pv (.sym 0))], [.box 29 [.pv (.sym 1), .pv (.sym 2), .pv (.sym 3), .pv (.sym 4)]], .ret, [(4, .pv (.sym 6))], [.box 29 [.pv (.sym 1), .pv (.sym 2), .pv (.sym 3), .pv (.sym 4)]]⟩ 1 (.ret (.pv (.sym 6)) [.box 29 [.pv (.sym 1), .pv (.sym 2), .pv (.sym 3), .pv (.sym 4)]])))
def A18a : List AV := [.pv (.sym 0), .fn 19 [.ptr 0 0]]
def H18a : List AObj := [.box 29 [.pv (.sym 1), .pv (.sym 2), .pv (.sym 3), .pv (.sym 4)]]
set_option maxRecDepth 100000 in
theorem c18a : chk Tryz.prog (leafF Tryz.prog t18 18 A18a H18a) T18a 5 [] [] [] = true := by kernel_rfl
theorem F18a (x0 : PV) (x1 : PV) (x2 : PV) (x3 : PV) (x4 : PV) (hn : NSL [x0, x1, x2, x3, x4]) (hh : TsH (nm [x0, x1, x2, x3, x4]) H18a) {v : AV} {h' : List AObj} (hd : Den Tryz.prog Tryz.f18 T18a [x0, x1, x2, x3, x4] (.ret v h')) :
    Sem Tryz.prog 18 [.pv x0, .fn 19 [.ptr 0 0]] [.box 29 [.pv x1, .pv x2, .pv x3, .pv x4]] v h' :=
  fun_rule f18_at f18_body mixed f18_tab (args := A18a) (h := H18a) (by kernel_rfl) c18a rfl hn (by simp [A18a]) hh hd
theorem f18_loop0 : isLoop1 (subs 0 (bodyOf Tryz.f18)) = true := by kernel_rfl
theorem f18_tab0 : tabOk t18.sd t18.sx (lb Tryz.f18 0) = true := by kernel_rfl
-- loop 0, objects before it: 1; paths: 3
def T18ab0a : Tr := .alt (.say (.bin .lss 3 (.pv (.sym 0)) (.pv (.sym 1)) (.pv (.lit (.bool true)))) 0 (.say (.idx 23 (.pv (.sym 2)) (.pv (.sym 0)) (.cptr [.sym 7, .sym 8, .sym 9, .sym 10, .sym 11, .sym 12, .sym 13, .sym 14])) 8 (.alt (.call ⟨19, [.agg [.pv (.sym 7), .pv (.sym 8), .pv (.sym 9), .pv (.sym 10), .pv (.sym 11), .pv (.sym 12), .pv (.sym 13), .pv (.sym 14)], .ptr 0 0], [.box 29 [.pv (.sym 3), .pv (.sym 4), .pv (.sym 5), .pv (.sym 6)]], .pv (.lit (.bool true)), [.box 29 [.pv (.sym 3), .pv (.sym 4), .pv (.sym 5), .pv (.sym 6)]]⟩ 0 (.code .ret [(4, .pv (.sym 0))] [.box 29 [.pv (.sym 3), .pv (.sym 4), .pv (.sym 5), .pv (.sym 6)]])) (.call ⟨19, [.agg [.pv (.sym 7), .pv (.sym 8), .pv (.sym 9), .pv (.sym 10), .pv (.sym 11), .pv (.sym 12), .pv (.sym 13), .pv (.sym 14)], .ptr 0 0], [.box 29 [.pv (.sym 3), .pv (.sym 4), .pv (.sym 5), .pv (.sym 6)]], .pv (.lit (.bool false)), [.box 29 [.pv (.sym 3), .pv (.sym 4), .pv (.sym 5), .pv (.sym 6)]]⟩ 0 (.say (.bin .add 3 (.pv (.sym 0)) (.pv (.lit (.int .i64 1))) (.pv (.sym 15))) 1 (.code .normal [(8, .pv (.sym 15)), (7, .pv (.sym 1)), (1, .fn 19 [.ptr 0 0]), (0, .pv (.sym 2))] [.box 29 [.pv (.sym 3), .pv (.sym 4), .pv (.sym 5), .pv (.sym 6)]])))))) (.say (.bin .lss 3 (.pv (.sym 0)) (.pv (.sym 1)) (.pv (.lit (.bool false)))) 0 (.code (.exit 0) [] [.box 29 [.pv (.sym 3), .pv (.sym 4), .pv (.sym 5), .pv (.sym 6)]]))
def E18ab0a : Env := [(8, .pv (.sym 0)), (7, .pv (.sym 1)), (1, .fn 19 [.ptr 0 0]), (0, .pv (.sym 2))]
def H18ab0a : List AObj := [.box 29 [.pv (.sym 3), .pv (.sym 4), .pv (.sym 5), .pv (.sym 6)]]
set_option maxRecDepth 100000 in
theorem c18ab0a : chk Tryz.prog (leafC Tryz.prog Tryz.f18 t18 (lb Tryz.f18 0) 1 E18ab0a H18ab0a) T18ab0a 7 [] [] [] = true := by kernel_rfl
theorem L18ab0a (x0 : PV) (x1 : PV) (x2 : PV) (x3 : PV) (x4 : PV) (x5 : PV) (x6 : PV) (hn : NSL [x0, x1, x2, x3, x4, x5, x6]) (hh : TsH (nm [x0, x1, x2, x3, x4, x5, x6]) H18ab0a) {ex : AExit} {e' : Env} {h' : List AObj} (hd : Den Tryz.prog Tryz.f18 T18ab0a [x0, x1, x2, x3, x4, x5, x6] (.code ex e' h')) (R : Nat → PV) :
    CodeB R Tryz.prog Tryz.f18.ntmps (lb Tryz.f18 0) 1 [(8, .pv x0), (7, .pv x1), (1, .fn 19 [.ptr 0 0]), (0, .pv x2)] [.box 29 [.pv x3, .pv x4, .pv x5, .pv x6]] ex e' h' :=
  body_rule f18_loop0 mixed f18_tab0 (e := E18ab0a) (h := H18ab0a) (by kernel_rfl) c18ab0a rfl hn (by simp [E18ab0a]) hh hd R
/-! 25: slices.EqualFunc[[]cognate/api.DCase,[]cognate/api.DCase,cognate/api.DCase,cognate/api.DCase] -/
def t25 : FT where
  keep := []
  kb := fun
    | 0 => [17, 16, 15, 1, 2]
    | _ => []
  sd := fun
    | _ => []
theorem f25_at : Tryz.prog.funcs[25]? = some Tryz.f25 := by kernel_rfl
theorem f25_body : Tryz.f25.body.isSome = true := by kernel_rfl
theorem f25_tab : tabOk t25.sd t25.sx (bodyOf Tryz.f25) = true := by kernel_rfl
-- paths: 4
def T25a : Tr := .say (.len 23 (.pv (.sym 0)) (.pv (.sym 2))) 1 (.say (.len 23 (.pv (.sym 1)) (.pv (.sym 3))) 1 (.alt (.say (.bin .neq 3 (.pv (.sym 2)) (.pv (.sym 3)) (.pv (.lit (.bool true)))) 0 (.ret (.pv (.lit (.bool false))) [])) (.say (.bin .neq 3 (.pv (.sym 2)) (.pv (.sym 3)) (.pv (.lit (.bool false)))) 0 (.alt (.blk ⟨0, [(17, .pv (.lit (.int .i64 0))), (16, .pv (.sym 2)), (15, .pv (.sym 0)), (1, .pv (.sym 1)), (2, .fn 23 [])], [], .normal, [], []⟩ 0 (.ret (.pv (.lit (.bool true))) [])) (.alt (.blk ⟨0, [(17, .pv (.lit (.int .i64 0))), (16, .pv (.sym 2)), (15, .pv (.sym 0)), (1, .pv (.sym 1)), (2, .fn 23 [])], [], .ret, [(6, .pv (.lit (.bool true)))], []⟩ 0 (.ret (.pv (.lit (.bool true))) [])) (.blk ⟨0, [(17, .pv (.lit (.int .i64 0))), (16, .pv (.sym 2)), (15, .pv (.sym 0)), (1, .pv (.sym 1)), (2, .fn 23 [])], [], .ret, [(6, .pv (.lit (.bool false)))], []⟩ 0 (.ret (.pv (.lit (.bool false))) [])))))))
def A25a : List AV := [.pv (.sym 0), .pv (.sym 1), .fn 23 []]
def H25a : List AObj := []
set_option maxRecDepth 100000 in
theorem c25a : chk Tryz.prog (leafF Tryz.prog t25 25 A25a H25a) T25a 2 [] [] [] = true := by kernel_rfl
theorem F25a (x0 : PV) (x1 : PV) (hn : NSL [x0, x1]) {v : AV} {h' : List AObj} (hd : Den Tryz.prog Tryz.f25 T25a [x0, x1] (.ret v h')) :
    Sem Tryz.prog 25 [.pv x0, .pv x1, .fn 23 []] [] v h' :=
  fun_rule f25_at f25_body mixed f25_tab (args := A25a) (h := H25a) (by kernel_rfl) c25a rfl hn (by simp [A25a]) (by trivial) hd
theorem f25_loop0 : isLoop1 (subs 0 (bodyOf Tryz.f25)) = true := by kernel_rfl
theorem f25_tab0 : tabOk t25.sd t25.sx (lb Tryz.f25 0) = true := by kernel_rfl
-- loop 0, objects before it: 0; paths: 3
def T25ab0a : Tr := .alt (.say (.bin .lss 3 (.pv (.sym 0)) (.pv (.sym 1)) (.pv (.lit (.bool true)))) 0 (.say (.idx 23 (.pv (.sym 2)) (.pv (.sym 0)) (.cptr [.sym 4, .sym 5, .sym 6, .sym 7, .sym 8, .sym 9, .sym 10, .sym 11])) 8 (.say (.idx 23 (.pv (.sym 3)) (.pv (.sym 0)) (.cptr [.sym 12, .sym 13, .sym 14, .sym 15, .sym 16, .sym 17, .sym 18, .sym 19])) 8 (.alt (.call ⟨23, [.agg [.pv (.sym 4), .pv (.sym 5), .pv (.sym 6), .pv (.sym 7), .pv (.sym 8), .pv (.sym 9), .pv (.sym 10), .pv (.sym 11)], .agg [.pv (.sym 12), .pv (.sym 13), .pv (.sym 14), .pv (.sym 15), .pv (.sym 16), .pv (.sym 17), .pv (.sym 18), .pv (.sym 19)]], [], .pv (.lit (.bool true)), []⟩ 0 (.say (.bin .add 3 (.pv (.sym 0)) (.pv (.lit (.int .i64 1))) (.pv (.sym 20))) 1 (.code .normal [(17, .pv (.sym 20)), (16, .pv (.sym 1)), (15, .pv (.sym 2)), (1, .pv (.sym 3)), (2, .fn 23 [])] []))) (.call ⟨23, [.agg [.pv (.sym 4), .pv (.sym 5), .pv (.sym 6), .pv (.sym 7), .pv (.sym 8), .pv (.sym 9), .pv (.sym 10), .pv (.sym 11)], .agg [.pv (.sym 12), .pv (.sym 13), .pv (.sym 14), .pv (.sym 15), .pv (.sym 16), .pv (.sym 17), .pv (.sym 18), .pv (.sym 19)]], [], .pv (.lit (.bool false)), []⟩ 0 (.code .ret [(6, .pv (.lit (.bool false)))] [])))))) (.say (.bin .lss 3 (.pv (.sym 0)) (.pv (.sym 1)) (.pv (.lit (.bool false)))) 0 (.code (.exit 0) [] []))
def E25ab0a : Env := [(17, .pv (.sym 0)), (16, .pv (.sym 1)), (15, .pv (.sym 2)), (1, .pv (.sym 3)), (2, .fn 23 [])]
def H25ab0a : List AObj := []
set_option maxRecDepth 100000 in
theorem c25ab0a : chk Tryz.prog (leafC Tryz.prog Tryz.f25 t25 (lb Tryz.f25 0) 0 E25ab0a H25ab0a) T25ab0a 4 [] [] [] = true := by kernel_rfl
theorem L25ab0a (x0 : PV) (x1 : PV) (x2 : PV) (x3 : PV) (hn : NSL [x0, x1, x2, x3]) {ex : AExit} {e' : Env} {h' : List AObj} (hd : Den Tryz.prog Tryz.f25 T25ab0a [x0, x1, x2, x3] (.code ex e' h')) (R : Nat → PV) :
    CodeB R Tryz.prog Tryz.f25.ntmps (lb Tryz.f25 0) 0 [(17, .pv x0), (16, .pv x1), (15, .pv x2), (1, .pv x3), (2, .fn 23 [])] [] ex e' h' :=
  body_rule f25_loop0 mixed f25_tab0 (e := E25ab0a) (h := H25ab0a) (by kernel_rfl) c25ab0a rfl hn (by simp [E25ab0a]) (by trivial) hd R
/-! 26: slices.EqualFunc[[]cognate/api.Dec,[]cognate/api.Dec,cognate/api.Dec,cognate/api.Dec] -/
def t26 : FT where
  keep := []
  kb := fun
    | 0 => [17, 16, 15, 1, 2]
    | _ => []
  sd := fun
    | _ => []
theorem f26_at : Tryz.prog.funcs[26]? = some Tryz.f26 := by kernel_rfl
theorem f26_body : Tryz.f26.body.isSome = true := by kernel_rfl
theorem f26_tab : tabOk t26.sd t26.sx (bodyOf Tryz.f26) = true := by kernel_rfl
-- paths: 4
def T26a : Tr := .say (.len 24 (.pv (.sym 0)) (.pv (.sym 2))) 1 (.say (.len 24 (.pv (.sym 1)) (.pv (.sym 3))) 1 (.alt (.say (.bin .neq 3 (.pv (.sym 2)) (.pv (.sym 3)) (.pv (.lit (.bool true)))) 0 (.ret (.pv (.lit (.bool false))) [])) (.say (.bin .neq 3 (.pv (.sym 2)) (.pv (.sym 3)) (.pv (.lit (.bool false)))) 0 (.alt (.blk ⟨0, [(17, .pv (.lit (.int .i64 0))), (16, .pv (.sym 2)), (15, .pv (.sym 0)), (1, .pv (.sym 1)), (2, .fn 11 [])], [], .normal, [], []⟩ 0 (.ret (.pv (.lit (.bool true))) [])) (.alt (.blk ⟨0, [(17, .pv (.lit (.int .i64 0))), (16, .pv (.sym 2)), (15, .pv (.sym 0)), (1, .pv (.sym 1)), (2, .fn 11 [])], [], .ret, [(6, .pv (.lit (.bool true)))], []⟩ 0 (.ret (.pv (.lit (.bool true))) [])) (.blk ⟨0, [(17, .pv (.lit (.int .i64 0))), (16, .pv (.sym 2)), (15, .pv (.sym 0)), (1, .pv (.sym 1)), (2, .fn 11 [])], [], .ret, [(6, .pv (.lit (.bool false)))], []⟩ 0 (.ret (.pv (.lit (.bool false))) [])))))))
def A26a : List AV := [.pv (.sym 0), .pv (.sym 1), .fn 11 []]
def H26a : List AObj := []
set_option maxRecDepth 100000 in
theorem c26a : chk Tryz.prog (leafF Tryz.prog t26 26 A26a H26a) T26a 2 [] [] [] = true := by kernel_rfl
theorem F26a (x0 : PV) (x1 : PV) (hn : NSL [x0, x1]) {v : AV} {h' : List AObj} (hd : Den Tryz.prog Tryz.f26 T26a [x0, x1] (.ret v h')) :
    Sem Tryz.prog 26 [.pv x0, .pv x1, .fn 11 []] [] v h' :=
  fun_rule f26_at f26_body mixed f26_tab (args := A26a) (h := H26a) (by kernel_rfl) c26a rfl hn (by simp [A26a]) (by trivial) hd
theorem f26_loop0 : isLoop1 (subs 0 (bodyOf Tryz.f26)) = true := by kernel_rfl
theorem f26_tab0 : tabOk t26.sd t26.sx (lb Tryz.f26 0) = true := by kernel_rfl
-- loop 0, objects before it: 0; paths: 3
def T26ab0a : Tr := .alt (.say (.bin .lss 3 (.pv (.sym 0)) (.pv (.sym 1)) (.pv (.lit (.bool true)))) 0 (.say (.idx 24 (.pv (.sym 2)) (.pv (.sym 0)) (.cptr [.sym 4, .sym 5, .sym 6, .sym 7, .sym 8])) 5 (.say (.idx 24 (.pv (.sym 3)) (.pv (.sym 0)) (.cptr [.sym 9, .sym 10, .sym 11, .sym 12, .sym 13])) 5 (.alt (.call ⟨11, [.agg [.pv (.sym 4), .pv (.sym 5), .pv (.sym 6), .pv (.sym 7), .pv (.sym 8)], .agg [.pv (.sym 9), .pv (.sym 10), .pv (.sym 11), .pv (.sym 12), .pv (.sym 13)]], [], .pv (.lit (.bool true)), []⟩ 0 (.say (.bin .add 3 (.pv (.sym 0)) (.pv (.lit (.int .i64 1))) (.pv (.sym 14))) 1 (.code .normal [(17, .pv (.sym 14)), (16, .pv (.sym 1)), (15, .pv (.sym 2)), (1, .pv (.sym 3)), (2, .fn 11 [])] []))) (.call ⟨11, [.agg [.pv (.sym 4), .pv (.sym 5), .pv (.sym 6), .pv (.sym 7), .pv (.sym 8)], .agg [.pv (.sym 9), .pv (.sym 10), .pv (.sym 11), .pv (.sym 12), .pv (.sym 13)]], [], .pv (.lit (.bool false)), []⟩ 0 (.code .ret [(6, .pv (.lit (.bool false)))] [])))))) (.say (.bin .lss 3 (.pv (.sym 0)) (.pv (.sym 1)) (.pv (.lit (.bool false)))) 0 (.code (.exit 0) [] []))
def E26ab0a : Env := [(17, .pv (.sym 0)), (16, .pv (.sym 1)), (15, .pv (.sym 2)), (1, .pv (.sym 3)), (2, .fn 11 [])]
def H26ab0a : List AObj := []
set_option maxRecDepth 100000 in
theorem c26ab0a : chk Tryz.prog (leafC Tryz.prog Tryz.f26 t26 (lb Tryz.f26 0) 0 E26ab0a H26ab0a) T26ab0a 4 [] [] [] = true := by kernel_rfl
theorem L26ab0a (x0 : PV) (x1 : PV) (x2 : PV) (x3 : PV) (hn : NSL [x0, x1, x2, x3]) {ex : AExit} {e' : Env} {h' : List AObj} (hd : Den Tryz.prog Tryz.f26 T26ab0a [x0, x1, x2, x3] (.code ex e' h')) (R : Nat → PV) :
    CodeB R Tryz.prog Tryz.f26.ntmps (lb Tryz.f26 0) 0 [(17, .pv x0), (16, .pv x1), (15, .pv x2), (1, .pv x3), (2, .fn 11 [])] [] ex e' h' :=
  body_rule f26_loop0 mixed f26_tab0 (e := E26ab0a) (h := H26ab0a) (by kernel_rfl) c26ab0a rfl hn (by simp [E26ab0a]) (by trivial) hd R
/-! 19: cognate/trees.Run$1 -/
def t19 : FT where
  keep := []
  kb := fun
    | _ => []
  sd := fun
    | _ => []
theorem f19_at : Tryz.prog.funcs[19]? = some Tryz.f19 := by kernel_rfl
theorem f19_body : Tryz.f19.body.isSome = true := by kernel_rfl
theorem f19_tab : tabOk t19.sd t19.sx (bodyOf Tryz.f19) = true := by kernel_rfl
-- paths: 8
def T19a : Tr := .alt (.say (.bin .eql 3 (.pv (.sym 0)) (.pv (.sym 8)) (.pv (.lit (.bool true)))) 0 (.alt (.say (.bin .eql 3 (.pv (.sym 0)) (.pv (.lit (.int .i64 3))) (.pv (.lit (.bool true)))) 0 (.alt (.say (.bin .eql 9 (.pv (.sym 1)) (.pv (.sym 10)) (.pv (.lit (.bool true)))) 0 (.ret (.pv (.lit (.bool true))) [.box 29 [.pv (.sym 8), .pv (.sym 9), .pv (.sym 10), .pv (.sym 11)]])) (.say (.bin .eql 9 (.pv (.sym 1)) (.pv (.sym 10)) (.pv (.lit (.bool false)))) 0 (.alt (.say (.bin .eql 3 (.pv (.sym 0)) (.pv (.lit (.int .i64 4))) (.pv (.lit (.bool true)))) 0 (.alt (.say (.bin .eql 2 (.pv (.sym 2)) (.pv (.sym 9)) (.pv (.lit (.bool true)))) 0 (.ret (.pv (.lit (.bool true))) [.box 29 [.pv (.sym 8), .pv (.sym 9), .pv (.sym 10), .pv (.sym 11)]])) (.say (.bin .eql 2 (.pv (.sym 2)) (.pv (.sym 9)) (.pv (.lit (.bool false)))) 0 (.ret (.pv (.lit (.bool false))) [.box 29 [.pv (.sym 8), .pv (.sym 9), .pv (.sym 10), .pv (.sym 11)]])))) (.say (.bin .eql 3 (.pv (.sym 0)) (.pv (.lit (.int .i64 4))) (.pv (.lit (.bool false)))) 0 (.ret (.pv (.lit (.bool false))) [.box 29 [.pv (.sym 8), .pv (.sym 9), .pv (.sym 10), .pv (.sym 11)]])))))) (.say (.bin .eql 3 (.pv (.sym 0)) (.pv (.lit (.int .i64 3))) (.pv (.lit (.bool false)))) 0 (.alt (.say (.bin .eql 3 (.pv (.sym 0)) (.pv (.lit (.int .i64 4))) (.pv (.lit (.bool true)))) 0 (.alt (.say (.bin .eql 2 (.pv (.sym 2)) (.pv (.sym 9)) (.pv (.lit (.bool true)))) 0 (.ret (.pv (.lit (.bool true))) [.box 29 [.pv (.sym 8), .pv (.sym 9), .pv (.sym 10), .pv (.sym 11)]])) (.say (.bin .eql 2 (.pv (.sym 2)) (.pv (.sym 9)) (.pv (.lit (.bool false)))) 0 (.ret (.pv (.lit (.bool false))) [.box 29 [.pv (.sym 8), .pv (.sym 9), .pv (.sym 10), .pv (.sym 11)]])))) (.say (.bin .eql 3 (.pv (.sym 0)) (.pv (.lit (.int .i64 4))) (.pv (.lit (.bool false)))) 0 (.ret (.pv (.lit (.bool false))) [.box 29 [.pv (.sym 8), .pv (.sym 9), .pv (.sym 10), .pv (.sym 11)]])))))) (.say (.bin .eql 3 (.pv (.sym 0)) (.pv (.sym 8)) (.pv (.lit (.bool false)))) 0 (.ret (.pv (.lit (.bool false))) [.box 29 [.pv (.sym 8), .pv (.sym 9), .pv (.sym 10), .pv (.sym 11)]]))
def A19a : List AV := [.agg [.pv (.sym 0), .pv (.sym 1), .pv (.sym 2), .pv (.sym 3), .pv (.sym 4), .pv (.sym 5), .pv (.sym 6), .pv (.sym 7)], .ptr 0 0]
def H19a : List AObj := [.box 29 [.pv (.sym 8), .pv (.sym 9), .pv (.sym 10), .pv (.sym 11)]]
set_option maxRecDepth 100000 in
theorem c19a : chk Tryz.prog (leafF Tryz.prog t19 19 A19a H19a) T19a 12 [] [] [] = true := by kernel_rfl
theorem F19a (x0 : PV) (x1 : PV) (x2 : PV) (x3 : PV) (x4 : PV) (x5 : PV) (x6 : PV) (x7 : PV) (x8 : PV) (x9 : PV) (x10 : PV) (x11 : PV) (hn : NSL [x0, x1, x2, x3, x4, x5, x6, x7, x8, x9, x10, x11]) (hh : TsH (nm [x0, x1, x2, x3, x4, x5, x6, x7, x8, x9, x10, x11]) H19a) {v : AV} {h' : List AObj} (hd : Den Tryz.prog Tryz.f19 T19a [x0, x1, x2, x3, x4, x5, x6, x7, x8, x9, x10, x11] (.ret v h')) :
    Sem Tryz.prog 19 [.agg [.pv x0, .pv x1, .pv x2, .pv x3, .pv x4, .pv x5, .pv x6, .pv x7], .ptr 0 0] [.box 29 [.pv x8, .pv x9, .pv x10, .pv x11]] v h' :=
  fun_rule f19_at f19_body mixed f19_tab (args := A19a) (h := H19a) (by kernel_rfl) c19a rfl hn (by simp [A19a]) hh hd
end Go.Proofs.YtmgmknpgikgnlaaGreat
