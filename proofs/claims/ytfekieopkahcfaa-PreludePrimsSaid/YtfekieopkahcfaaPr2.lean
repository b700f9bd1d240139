/- The reference's primitives: by abstract runs. -/
import Derived.Test.YtfekieopkahcfaaPr1
namespace Go.Proofs.Ytfekieopkahcfaa
open Go.RowKit

def tx0 : ByteArray := ⟨#[73, 110, 116, 32, 45, 62, 32, 73, 110, 116, 32, 45, 62, 32, 73, 110, 116]⟩
def ty0 : AV := .tup [.agg [.pv (.lit (.int .i64 3)), .pv (.lit (.string ⟨#[45, 62]⟩)), .pv (.lit (.int .i64 0)), .trows 0 [[.lit (.int .i64 3), .lit (.string ⟨#[73, 110, 116]⟩), .lit (.int .i64 0), .lit (.slice none 0 0)], [.lit (.int .i64 3), .lit (.string ⟨#[45, 62]⟩), .lit (.int .i64 0), .rows [[.lit (.int .i64 3), .lit (.string ⟨#[73, 110, 116]⟩), .lit (.int .i64 0), .lit (.slice none 0 0)], [.lit (.int .i64 3), .lit (.string ⟨#[73, 110, 116]⟩), .lit (.int .i64 0), .lit (.slice none 0 0)]]]]], .pv (.lit (.int .i64 0)), .pv (.lit (.int .i64 0))]
set_option maxRecDepth 100000 in
theorem run16_0 : evalF Try.prog okT tabT sp0 100000 40 16 [.pv (.lit (.string tx0))] [] = some (ty0, [.tok 31 4 2]) := by kernel_rfl
def tx1 : ByteArray := ⟨#[73, 110, 116, 32, 45, 62, 32, 73, 110, 116, 32, 45, 62, 32, 66, 111, 111, 108]⟩
def ty1 : AV := .tup [.agg [.pv (.lit (.int .i64 3)), .pv (.lit (.string ⟨#[45, 62]⟩)), .pv (.lit (.int .i64 0)), .trows 0 [[.lit (.int .i64 3), .lit (.string ⟨#[73, 110, 116]⟩), .lit (.int .i64 0), .lit (.slice none 0 0)], [.lit (.int .i64 3), .lit (.string ⟨#[45, 62]⟩), .lit (.int .i64 0), .rows [[.lit (.int .i64 3), .lit (.string ⟨#[73, 110, 116]⟩), .lit (.int .i64 0), .lit (.slice none 0 0)], [.lit (.int .i64 3), .lit (.string ⟨#[66, 111, 111, 108]⟩), .lit (.int .i64 0), .lit (.slice none 0 0)]]]]], .pv (.lit (.int .i64 0)), .pv (.lit (.int .i64 0))]
set_option maxRecDepth 100000 in
theorem run16_1 : evalF Try.prog okT tabT sp0 100000 40 16 [.pv (.lit (.string tx1))] [] = some (ty1, [.tok 31 4 2]) := by kernel_rfl
def tx2 : ByteArray := ⟨#[83, 116, 114, 105, 110, 103, 32, 45, 62, 32, 83, 116, 114, 105, 110, 103, 32, 45, 62, 32, 83, 116, 114, 105, 110, 103]⟩
def ty2 : AV := .tup [.agg [.pv (.lit (.int .i64 3)), .pv (.lit (.string ⟨#[45, 62]⟩)), .pv (.lit (.int .i64 0)), .trows 0 [[.lit (.int .i64 3), .lit (.string ⟨#[83, 116, 114, 105, 110, 103]⟩), .lit (.int .i64 0), .lit (.slice none 0 0)], [.lit (.int .i64 3), .lit (.string ⟨#[45, 62]⟩), .lit (.int .i64 0), .rows [[.lit (.int .i64 3), .lit (.string ⟨#[83, 116, 114, 105, 110, 103]⟩), .lit (.int .i64 0), .lit (.slice none 0 0)], [.lit (.int .i64 3), .lit (.string ⟨#[83, 116, 114, 105, 110, 103]⟩), .lit (.int .i64 0), .lit (.slice none 0 0)]]]]], .pv (.lit (.int .i64 0)), .pv (.lit (.int .i64 0))]
set_option maxRecDepth 100000 in
theorem run16_2 : evalF Try.prog okT tabT sp0 100000 40 16 [.pv (.lit (.string tx2))] [] = some (ty2, [.tok 31 4 2]) := by kernel_rfl
def tx3 : ByteArray := ⟨#[83, 116, 114, 105, 110, 103, 32, 45, 62, 32, 83, 116, 114, 105, 110, 103, 32, 45, 62, 32, 66, 111, 111, 108]⟩
def ty3 : AV := .tup [.agg [.pv (.lit (.int .i64 3)), .pv (.lit (.string ⟨#[45, 62]⟩)), .pv (.lit (.int .i64 0)), .trows 0 [[.lit (.int .i64 3), .lit (.string ⟨#[83, 116, 114, 105, 110, 103]⟩), .lit (.int .i64 0), .lit (.slice none 0 0)], [.lit (.int .i64 3), .lit (.string ⟨#[45, 62]⟩), .lit (.int .i64 0), .rows [[.lit (.int .i64 3), .lit (.string ⟨#[83, 116, 114, 105, 110, 103]⟩), .lit (.int .i64 0), .lit (.slice none 0 0)], [.lit (.int .i64 3), .lit (.string ⟨#[66, 111, 111, 108]⟩), .lit (.int .i64 0), .lit (.slice none 0 0)]]]]], .pv (.lit (.int .i64 0)), .pv (.lit (.int .i64 0))]
set_option maxRecDepth 100000 in
theorem run16_3 : evalF Try.prog okT tabT sp0 100000 40 16 [.pv (.lit (.string tx3))] [] = some (ty3, [.tok 31 4 2]) := by kernel_rfl
def tx4 : ByteArray := ⟨#[83, 116, 114, 105, 110, 103, 32, 45, 62, 32, 73, 110, 116]⟩
def ty4 : AV := .tup [.agg [.pv (.lit (.int .i64 3)), .pv (.lit (.string ⟨#[45, 62]⟩)), .pv (.lit (.int .i64 0)), .trows 0 [[.lit (.int .i64 3), .lit (.string ⟨#[83, 116, 114, 105, 110, 103]⟩), .lit (.int .i64 0), .lit (.slice none 0 0)], [.lit (.int .i64 3), .lit (.string ⟨#[73, 110, 116]⟩), .lit (.int .i64 0), .lit (.slice none 0 0)]]], .pv (.lit (.int .i64 0)), .pv (.lit (.int .i64 0))]
set_option maxRecDepth 100000 in
theorem run16_4 : evalF Try.prog okT tabT sp0 100000 40 16 [.pv (.lit (.string tx4))] [] = some (ty4, [.tok 31 4 2]) := by kernel_rfl
def tx5 : ByteArray := ⟨#[73, 110, 116, 32, 45, 62, 32, 83, 116, 114, 105, 110, 103]⟩
def ty5 : AV := .tup [.agg [.pv (.lit (.int .i64 3)), .pv (.lit (.string ⟨#[45, 62]⟩)), .pv (.lit (.int .i64 0)), .trows 0 [[.lit (.int .i64 3), .lit (.string ⟨#[73, 110, 116]⟩), .lit (.int .i64 0), .lit (.slice none 0 0)], [.lit (.int .i64 3), .lit (.string ⟨#[83, 116, 114, 105, 110, 103]⟩), .lit (.int .i64 0), .lit (.slice none 0 0)]]], .pv (.lit (.int .i64 0)), .pv (.lit (.int .i64 0))]
set_option maxRecDepth 100000 in
theorem run16_5 : evalF Try.prog okT tabT sp0 100000 40 16 [.pv (.lit (.string tx5))] [] = some (ty5, [.tok 31 4 2]) := by kernel_rfl
def tx6 : ByteArray := ⟨#[83, 116, 114, 105, 110, 103, 32, 45, 62, 32, 85, 110, 105, 116]⟩
def ty6 : AV := .tup [.agg [.pv (.lit (.int .i64 3)), .pv (.lit (.string ⟨#[45, 62]⟩)), .pv (.lit (.int .i64 0)), .trows 0 [[.lit (.int .i64 3), .lit (.string ⟨#[83, 116, 114, 105, 110, 103]⟩), .lit (.int .i64 0), .lit (.slice none 0 0)], [.lit (.int .i64 3), .lit (.string ⟨#[85, 110, 105, 116]⟩), .lit (.int .i64 0), .lit (.slice none 0 0)]]], .pv (.lit (.int .i64 0)), .pv (.lit (.int .i64 0))]
set_option maxRecDepth 100000 in
theorem run16_6 : evalF Try.prog okT tabT sp0 100000 40 16 [.pv (.lit (.string tx6))] [] = some (ty6, [.tok 31 4 2]) := by kernel_rfl
def tx7 : ByteArray := ⟨#[85, 110, 105, 116, 32, 45, 62, 32, 83, 116, 114, 105, 110, 103]⟩
def ty7 : AV := .tup [.agg [.pv (.lit (.int .i64 3)), .pv (.lit (.string ⟨#[45, 62]⟩)), .pv (.lit (.int .i64 0)), .trows 0 [[.lit (.int .i64 3), .lit (.string ⟨#[85, 110, 105, 116]⟩), .lit (.int .i64 0), .lit (.slice none 0 0)], [.lit (.int .i64 3), .lit (.string ⟨#[83, 116, 114, 105, 110, 103]⟩), .lit (.int .i64 0), .lit (.slice none 0 0)]]], .pv (.lit (.int .i64 0)), .pv (.lit (.int .i64 0))]
set_option maxRecDepth 100000 in
theorem run16_7 : evalF Try.prog okT tabT sp0 100000 40 16 [.pv (.lit (.string tx7))] [] = some (ty7, [.tok 31 4 2]) := by kernel_rfl
def tx8 : ByteArray := ⟨#[97, 32, 45, 62, 32, 82, 101, 102, 32, 97]⟩
def ty8 : AV := .tup [.agg [.pv (.lit (.int .i64 3)), .pv (.lit (.string ⟨#[45, 62]⟩)), .pv (.lit (.int .i64 0)), .trows 0 [[.lit (.int .i64 1), .lit (.string ⟨#[97]⟩), .lit (.int .i64 0), .lit (.slice none 0 0)], [.lit (.int .i64 3), .lit (.string ⟨#[82, 101, 102]⟩), .lit (.int .i64 0), .rows [[.lit (.int .i64 1), .lit (.string ⟨#[97]⟩), .lit (.int .i64 0), .lit (.slice none 0 0)]]]]], .pv (.lit (.int .i64 0)), .pv (.lit (.int .i64 0))]
set_option maxRecDepth 100000 in
theorem run16_8 : evalF Try.prog okT tabT sp0 100000 40 16 [.pv (.lit (.string tx8))] [] = some (ty8, [.tok 31 4 2]) := by kernel_rfl
def tx9 : ByteArray := ⟨#[82, 101, 102, 32, 97, 32, 45, 62, 32, 97]⟩
def ty9 : AV := .tup [.agg [.pv (.lit (.int .i64 3)), .pv (.lit (.string ⟨#[45, 62]⟩)), .pv (.lit (.int .i64 0)), .trows 0 [[.lit (.int .i64 3), .lit (.string ⟨#[82, 101, 102]⟩), .lit (.int .i64 0), .rows [[.lit (.int .i64 1), .lit (.string ⟨#[97]⟩), .lit (.int .i64 0), .lit (.slice none 0 0)]]], [.lit (.int .i64 1), .lit (.string ⟨#[97]⟩), .lit (.int .i64 0), .lit (.slice none 0 0)]]], .pv (.lit (.int .i64 0)), .pv (.lit (.int .i64 0))]
set_option maxRecDepth 100000 in
theorem run16_9 : evalF Try.prog okT tabT sp0 100000 40 16 [.pv (.lit (.string tx9))] [] = some (ty9, [.tok 31 4 2]) := by kernel_rfl
def tx10 : ByteArray := ⟨#[82, 101, 102, 32, 97, 32, 45, 62, 32, 97, 32, 45, 62, 32, 85, 110, 105, 116]⟩
def ty10 : AV := .tup [.agg [.pv (.lit (.int .i64 3)), .pv (.lit (.string ⟨#[45, 62]⟩)), .pv (.lit (.int .i64 0)), .trows 0 [[.lit (.int .i64 3), .lit (.string ⟨#[82, 101, 102]⟩), .lit (.int .i64 0), .rows [[.lit (.int .i64 1), .lit (.string ⟨#[97]⟩), .lit (.int .i64 0), .lit (.slice none 0 0)]]], [.lit (.int .i64 3), .lit (.string ⟨#[45, 62]⟩), .lit (.int .i64 0), .rows [[.lit (.int .i64 1), .lit (.string ⟨#[97]⟩), .lit (.int .i64 0), .lit (.slice none 0 0)], [.lit (.int .i64 3), .lit (.string ⟨#[85, 110, 105, 116]⟩), .lit (.int .i64 0), .lit (.slice none 0 0)]]]]], .pv (.lit (.int .i64 0)), .pv (.lit (.int .i64 0))]
set_option maxRecDepth 100000 in
theorem run16_10 : evalF Try.prog okT tabT sp0 100000 40 16 [.pv (.lit (.string tx10))] [] = some (ty10, [.tok 31 4 2]) := by kernel_rfl
/-- What the texts mean. -/
def typeT (s : ByteArray) : Option AV :=
  if eqS s tx0 then some ty0
  else if eqS s tx1 then some ty1
  else if eqS s tx2 then some ty2
  else if eqS s tx3 then some ty3
  else if eqS s tx4 then some ty4
  else if eqS s tx5 then some ty5
  else if eqS s tx6 then some ty6
  else if eqS s tx7 then some ty7
  else if eqS s tx8 then some ty8
  else if eqS s tx9 then some ty9
  else if eqS s tx10 then some ty10
  else none
theorem eqS_iff {s x : ByteArray} (h : eqS s x = true) : s = x := by
  have := (eqL_iff _ _).1 h
  cases s
  cases x
  congr
  exact Array.ext' this
theorem typeT_ok {s : ByteArray} {v : AV} (h : typeT s = some v) : evalF Try.prog okT tabT sp0 100000 40 16 [.pv (.lit (.string s))] [] = some (v, [.tok 31 4 2]) := by
  unfold typeT at h
  split at h
  · rename_i e; cases h; rw [eqS_iff e]; exact run16_0
  split at h
  · rename_i e; cases h; rw [eqS_iff e]; exact run16_1
  split at h
  · rename_i e; cases h; rw [eqS_iff e]; exact run16_2
  split at h
  · rename_i e; cases h; rw [eqS_iff e]; exact run16_3
  split at h
  · rename_i e; cases h; rw [eqS_iff e]; exact run16_4
  split at h
  · rename_i e; cases h; rw [eqS_iff e]; exact run16_5
  split at h
  · rename_i e; cases h; rw [eqS_iff e]; exact run16_6
  split at h
  · rename_i e; cases h; rw [eqS_iff e]; exact run16_7
  split at h
  · rename_i e; cases h; rw [eqS_iff e]; exact run16_8
  split at h
  · rename_i e; cases h; rw [eqS_iff e]; exact run16_9
  split at h
  · rename_i e; cases h; rw [eqS_iff e]; exact run16_10
  · cases h
def spT : Nat → List AV → List AObj → Option (AV × List AObj)
  | 16, [.pv (.lit (.string s))], [] => match typeT s with
    | some v => some (v, [.tok 31 4 2])
    | none => none
  | _, _, _ => none
theorem spT_ok : CallsOk Try.prog spT := by
  intro f args h v h' he
  unfold spT at he
  split at he
  · split at he
    · rename_i hv
      cases he
      exact evalF_sound sp0_ok okT_ok tabT_ok mixed 40 _ _ _ _ _ (typeT_ok hv)
    · cases he
  · cases he
set_option maxRecDepth 100000 in
theorem run7 : evalF Try.prog okT tabT spT 100000 40 7 [] [] = some (.trows 0 rs5, [.tok 35 9 17]) := by kernel_rfl
end Go.Proofs.Ytfekieopkahcfaa
