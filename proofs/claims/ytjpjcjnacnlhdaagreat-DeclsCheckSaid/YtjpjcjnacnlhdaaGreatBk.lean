/- Joined. -/
import Derived.Test.YtjpjcjnacnlhdaaGreatDt1
namespace Go.Proofs.YtjpjcjnacnlhdaaGreat
open Go.RowKit
def exSrc1:ByteArray:=⟨#[99,108,97,115,115,32,69,113,32,97,32,119,104,101,114,101,32,101,110,100,59,32,105,110,115,116,97,110,99,101,32,69,113,32,73,110,116,32,119,104,101,114,101,32,101,110,100,59,32,105,110,115,116,97,110,99,101,32,69,113,32,73,110,116,32,119,104,101,114,101,32,101,110,100,59]⟩
set_option maxRecDepth 100000 in
theorem run_p1:evalF Tryz.prog okT tabT sp0 100000 60 7 [.pv (.lit (.string exSrc1))] []=some (.tup [.agg [.pv (.lit (.slice none 0 0)),.trows 0 [[.lit (.string ⟨#[69,113]⟩),.lit (.string ⟨#[97]⟩),.lit (.slice none 0 0),.lit (.slice none 0 0),.lit (.slice none 0 0),.lit (.int .i64 6)]],.trows 1 [[.lit (.string ⟨#[69,113]⟩),.lit (.int .i64 3),.lit (.string ⟨#[73,110,116]⟩),.lit (.int .i64 0),.lit (.slice none 0 0),.lit (.slice none 0 0),.lit (.slice none 0 0),.lit (.int .i64 31)],[.lit (.string ⟨#[69,113]⟩),.lit (.int .i64 3),.lit (.string ⟨#[73,110,116]⟩),.lit (.int .i64 0),.lit (.slice none 0 0),.lit (.slice none 0 0),.lit (.slice none 0 0),.lit (.int .i64 58)]],.pv (.lit (.slice none 0 0))],.pv (.lit (.int .i64 0)),.pv (.lit (.int .i64 0))],[.tok 77 6 1,.tok 81 8 2]):=by kernel_rfl
def exSrc2:ByteArray:=⟨#[100,97,116,97,32,84,32,61,32,65,59,32,99,108,97,115,115,32,69,113,32,97,32,119,104,101,114,101,32,101,110,100,59,32,99,108,97,115,115,32,79,114,100,32,97,32,102,114,111,109,32,69,113,32,119,104,101,114,101,32,101,110,100,59,32,105,110,115,116,97,110,99,101,32,79,114,100,32,84,32,119,104,101,114,101,32,101,110,100,59]⟩
set_option maxRecDepth 100000 in
theorem run_p2:evalF Tryz.prog okT tabT sp0 100000 60 7 [.pv (.lit (.string exSrc2))] []=some (.tup [.agg [.trows 0 [[.lit (.string ⟨#[84]⟩),.lit (.slice none 0 0),.rows [[.lit (.string ⟨#[65]⟩),.lit (.slice none 0 0),.lit (.int .i64 9)]],.lit (.slice none 0 0),.lit (.int .i64 5)]],.trows 1 [[.lit (.string ⟨#[69,113]⟩),.lit (.string ⟨#[97]⟩),.lit (.slice none 0 0),.lit (.slice none 0 0),.lit (.slice none 0 0),.lit (.int .i64 18)],[.lit (.string ⟨#[79,114,100]⟩),.lit (.string ⟨#[97]⟩),.rows [[.lit (.string ⟨#[69,113]⟩)]],.lit (.slice none 0 0),.lit (.slice none 0 0),.lit (.int .i64 40)]],.trows 2 [[.lit (.string ⟨#[79,114,100]⟩),.lit (.int .i64 3),.lit (.string ⟨#[84]⟩),.lit (.int .i64 0),.lit (.slice none 0 0),.lit (.slice none 0 0),.lit (.slice none 0 0),.lit (.int .i64 74)]],.pv (.lit (.slice none 0 0))],.pv (.lit (.int .i64 0)),.pv (.lit (.int .i64 0))],[.tok 73 5 1,.tok 77 6 2,.tok 81 8 1]):=by kernel_rfl
def exSrc3:ByteArray:=⟨#[100,97,116,97,32,84,32,61,32,65,59]⟩
set_option maxRecDepth 100000 in
theorem run_p3:evalF Tryz.prog okT tabT sp0 100000 60 7 [.pv (.lit (.string exSrc3))] []=some (.tup [.agg [.trows 0 [[.lit (.string ⟨#[84]⟩),.lit (.slice none 0 0),.rows [[.lit (.string ⟨#[65]⟩),.lit (.slice none 0 0),.lit (.int .i64 9)]],.lit (.slice none 0 0),.lit (.int .i64 5)]],.pv (.lit (.slice none 0 0)),.pv (.lit (.slice none 0 0)),.pv (.lit (.slice none 0 0))],.pv (.lit (.int .i64 0)),.pv (.lit (.int .i64 0))],[.tok 73 5 1]):=by kernel_rfl
theorem mixedX:Tryz.prog.follows .mixedOrders=true:=by kernel_rfl
def exD1:PV:=.lit (.slice none 0 0)
def exC1:PV:=.rows [[.lit (.string ⟨#[69,113]⟩),.lit (.string ⟨#[97]⟩),.lit (.slice none 0 0),.lit (.slice none 0 0),.lit (.slice none 0 0),.lit (.int .i64 6)]]
def exI1:PV:=.rows [[.lit (.string ⟨#[69,113]⟩),.lit (.int .i64 3),.lit (.string ⟨#[73,110,116]⟩),.lit (.int .i64 0),.lit (.slice none 0 0),.lit (.slice none 0 0),.lit (.slice none 0 0),.lit (.int .i64 31)],[.lit (.string ⟨#[69,113]⟩),.lit (.int .i64 3),.lit (.string ⟨#[73,110,116]⟩),.lit (.int .i64 0),.lit (.slice none 0 0),.lit (.slice none 0 0),.lit (.slice none 0 0),.lit (.int .i64 58)]]
def exB1:PV:=.lit (.slice none 0 0)
set_option maxRecDepth 100000 in
theorem run_c1:evalF Tryz.prog okT tabT sp0 100000 60 8 [.agg [.pv exD1,.pv exC1,.pv exI1,.pv exB1]] []=some (.tup [.agg [.pv (.lit (.slice none 0 0)),.pv (.lit (.slice none 0 0)),.pv (.lit (.slice none 0 0))],.agg [.pv (.lit (.int .i64 125)),.pv (.lit (.int .i64 58))]],[]):=by kernel_rfl
theorem ex_p1(R:Nat→PV):CallOk R Tryz.prog 7 [.pv (.lit (.string exSrc1))] [] (.tup [.agg [.pv exD1,.pv exC1,.pv exI1,.pv exB1],.pv (.lit (.int .i64 0)),.pv (.lit (.int .i64 0))]) []:=
 (evalF_sound (sp0_ok R) okT_ok tabT_ok (fun _=>rfl) mixedX 60 _ _ _ _ _ run_p1).forgetL rfl
theorem ex_c1(R:Nat→PV):CallOk R Tryz.prog 8 [.agg [.pv exD1,.pv exC1,.pv exI1,.pv exB1]] [] (.tup [.agg [.pv (.lit (.slice none 0 0)),.pv (.lit (.slice none 0 0)),.pv (.lit (.slice none 0 0))],.agg [.pv (.lit (.int .i64 125)),.pv (.lit (.int .i64 58))]]) []:=
 (evalF_sound (sp0_ok R) okT_ok tabT_ok (fun _=>rfl) mixedX 60 _ _ _ _ _ run_c1).forgetL rfl
def exD2:PV:=.rows [[.lit (.string ⟨#[84]⟩),.lit (.slice none 0 0),.rows [[.lit (.string ⟨#[65]⟩),.lit (.slice none 0 0),.lit (.int .i64 9)]],.lit (.slice none 0 0),.lit (.int .i64 5)]]
def exC2:PV:=.rows [[.lit (.string ⟨#[69,113]⟩),.lit (.string ⟨#[97]⟩),.lit (.slice none 0 0),.lit (.slice none 0 0),.lit (.slice none 0 0),.lit (.int .i64 18)],[.lit (.string ⟨#[79,114,100]⟩),.lit (.string ⟨#[97]⟩),.rows [[.lit (.string ⟨#[69,113]⟩)]],.lit (.slice none 0 0),.lit (.slice none 0 0),.lit (.int .i64 40)]]
def exI2:PV:=.rows [[.lit (.string ⟨#[79,114,100]⟩),.lit (.int .i64 3),.lit (.string ⟨#[84]⟩),.lit (.int .i64 0),.lit (.slice none 0 0),.lit (.slice none 0 0),.lit (.slice none 0 0),.lit (.int .i64 74)]]
def exB2:PV:=.lit (.slice none 0 0)
set_option maxRecDepth 100000 in
theorem run_c2:evalF Tryz.prog okT tabT sp0 100000 60 8 [.agg [.pv exD2,.pv exC2,.pv exI2,.pv exB2]] []=some (.tup [.agg [.pv (.lit (.slice none 0 0)),.pv (.lit (.slice none 0 0)),.pv (.lit (.slice none 0 0))],.agg [.pv (.lit (.int .i64 126)),.pv (.lit (.int .i64 74))]],[]):=by kernel_rfl
theorem ex_p2(R:Nat→PV):CallOk R Tryz.prog 7 [.pv (.lit (.string exSrc2))] [] (.tup [.agg [.pv exD2,.pv exC2,.pv exI2,.pv exB2],.pv (.lit (.int .i64 0)),.pv (.lit (.int .i64 0))]) []:=
 (evalF_sound (sp0_ok R) okT_ok tabT_ok (fun _=>rfl) mixedX 60 _ _ _ _ _ run_p2).forgetL rfl
theorem ex_c2(R:Nat→PV):CallOk R Tryz.prog 8 [.agg [.pv exD2,.pv exC2,.pv exI2,.pv exB2]] [] (.tup [.agg [.pv (.lit (.slice none 0 0)),.pv (.lit (.slice none 0 0)),.pv (.lit (.slice none 0 0))],.agg [.pv (.lit (.int .i64 126)),.pv (.lit (.int .i64 74))]]) []:=
 (evalF_sound (sp0_ok R) okT_ok tabT_ok (fun _=>rfl) mixedX 60 _ _ _ _ _ run_c2).forgetL rfl
def exD3:PV:=.rows [[.lit (.string ⟨#[84]⟩),.lit (.slice none 0 0),.rows [[.lit (.string ⟨#[65]⟩),.lit (.slice none 0 0),.lit (.int .i64 9)]],.lit (.slice none 0 0),.lit (.int .i64 5)]]
def exC3:PV:=.lit (.slice none 0 0)
def exI3:PV:=.lit (.slice none 0 0)
def exB3:PV:=.lit (.slice none 0 0)
set_option maxRecDepth 100000 in
theorem run_c3:evalF Tryz.prog okT tabT sp0 100000 60 8 [.agg [.pv exD3,.pv exC3,.pv exI3,.pv exB3]] []=some (.tup [.agg [.trows 0 [[.lit (.string ⟨#[84]⟩),.lit (.slice none 0 0),.rows [[.lit (.string ⟨#[65]⟩),.lit (.slice none 0 0),.lit (.int .i64 9)]],.lit (.slice none 0 0),.lit (.int .i64 5)]],.pv (.lit (.slice none 0 0)),.pv (.lit (.slice none 0 0))],.agg [.pv (.lit (.int .i64 0)),.pv (.lit (.int .i64 0))]],[.tok 73 5 1]):=by kernel_rfl
theorem ex_p3(R:Nat→PV):CallOk R Tryz.prog 7 [.pv (.lit (.string exSrc3))] [] (.tup [.agg [.pv exD3,.pv exC3,.pv exI3,.pv exB3],.pv (.lit (.int .i64 0)),.pv (.lit (.int .i64 0))]) []:=
 (evalF_sound (sp0_ok R) okT_ok tabT_ok (fun _=>rfl) mixedX 60 _ _ _ _ _ run_p3).forgetL rfl
theorem ex_c3(R:Nat→PV):CallOk R Tryz.prog 8 [.agg [.pv exD3,.pv exC3,.pv exI3,.pv exB3]] [] (.tup [.agg [.pv (.rows [[.lit (.string ⟨#[84]⟩),.lit (.slice none 0 0),.rows [[.lit (.string ⟨#[65]⟩),.lit (.slice none 0 0),.lit (.int .i64 9)]],.lit (.slice none 0 0),.lit (.int .i64 5)]]),.pv (.lit (.slice none 0 0)),.pv (.lit (.slice none 0 0))],.agg [.pv (.lit (.int .i64 0)),.pv (.lit (.int .i64 0))]]) []:=
 (evalF_sound (sp0_ok R) okT_ok tabT_ok (fun _=>rfl) mixedX 60 _ _ _ _ _ run_c3).forgetL rfl
end Go.Proofs.YtjpjcjnacnlhdaaGreat
