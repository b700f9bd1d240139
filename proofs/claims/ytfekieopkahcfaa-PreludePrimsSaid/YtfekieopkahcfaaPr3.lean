/- PreludePrims: the law, by abstract runs: a name that is none of the primitives', each of theirs, a long one. -/
import Derived.Test.YtfekieopkahcfaaPr2
namespace Go.Proofs.Ytfekieopkahcfaa
open Go.RowKit

/-- What is known. -/
def sp2 : Nat → List AV → List AObj → Option (AV × List AObj)
  | 4, [], [] => some (.pv (.lit (.bool true)), [])
  | 5, [], [] => some (.trows 0 rs5, [.tok 35 9 17])
  | 6, [], [] => some (.trows 0 rs6, [.tok 40 8 17])
  | 7, [], [] => some (.trows 0 rs5, [.tok 35 9 17])
  | _, _, _ => none
theorem sp2_ok : CallsOk Try.prog sp2 := by
  intro f args h v h' he
  unfold sp2 at he
  split at he
  · cases he
    exact evalF_sound sp1_ok okT_ok tabT_ok mixed 30 _ _ _ _ _ run4
  · cases he
    exact evalF_sound sp0_ok okT_ok tabT_ok mixed 30 _ _ _ _ _ run5
  · cases he
    exact evalF_sound sp1_ok okT_ok tabT_ok mixed 30 _ _ _ _ _ run6
  · cases he
    exact evalF_sound spT_ok okT_ok tabT_ok mixed 40 _ _ _ _ _ run7
  · cases he
def primNames : List ByteArray := [⟨#[112, 114, 105, 109, 65, 100, 100]⟩, ⟨#[112, 114, 105, 109, 83, 117, 98]⟩, ⟨#[112, 114, 105, 109, 77, 117, 108]⟩, ⟨#[112, 114, 105, 109, 68, 105, 118]⟩, ⟨#[112, 114, 105, 109, 77, 111, 100]⟩, ⟨#[112, 114, 105, 109, 69, 113]⟩, ⟨#[112, 114, 105, 109, 76, 101, 115, 115]⟩, ⟨#[112, 114, 105, 109, 67, 97, 116]⟩, ⟨#[112, 114, 105, 109, 83, 97, 109, 101]⟩, ⟨#[112, 114, 105, 109, 66, 101, 102, 111, 114, 101]⟩, ⟨#[112, 114, 105, 109, 76, 101, 110]⟩, ⟨#[112, 114, 105, 109, 83, 104, 111, 119]⟩, ⟨#[112, 114, 105, 109, 80, 117, 116]⟩, ⟨#[112, 114, 105, 109, 71, 101, 116]⟩, ⟨#[112, 114, 105, 109, 78, 101, 119]⟩, ⟨#[112, 114, 105, 109, 82, 101, 97, 100]⟩, ⟨#[112, 114, 105, 109, 87, 114, 105, 116, 101]⟩]
set_option maxRecDepth 100000 in
theorem run3_out : evalF Try.prog okT tabT sp2 100000 30 3 [.pv (.opq primNames 0 100)] [] = some (.pv (.lit (.bool true)), []) := by kernel_rfl
set_option maxRecDepth 100000 in
theorem run3_long (n : Nat) : evalF Try.prog okT tabT sp2 100000 30 3 [.pv (.opq [] 101 n)] [] = some (.pv (.lit (.bool true)), []) := by kernel_rfl
set_option maxRecDepth 100000 in
theorem run3_0 : evalF Try.prog okT tabT sp2 100000 30 3 [.pv (.lit (.string ⟨#[112, 114, 105, 109, 65, 100, 100]⟩))] [] = some (.pv (.lit (.bool true)), []) := by kernel_rfl
set_option maxRecDepth 100000 in
theorem run3_1 : evalF Try.prog okT tabT sp2 100000 30 3 [.pv (.lit (.string ⟨#[112, 114, 105, 109, 83, 117, 98]⟩))] [] = some (.pv (.lit (.bool true)), []) := by kernel_rfl
set_option maxRecDepth 100000 in
theorem run3_2 : evalF Try.prog okT tabT sp2 100000 30 3 [.pv (.lit (.string ⟨#[112, 114, 105, 109, 77, 117, 108]⟩))] [] = some (.pv (.lit (.bool true)), []) := by kernel_rfl
set_option maxRecDepth 100000 in
theorem run3_3 : evalF Try.prog okT tabT sp2 100000 30 3 [.pv (.lit (.string ⟨#[112, 114, 105, 109, 68, 105, 118]⟩))] [] = some (.pv (.lit (.bool true)), []) := by kernel_rfl
set_option maxRecDepth 100000 in
theorem run3_4 : evalF Try.prog okT tabT sp2 100000 30 3 [.pv (.lit (.string ⟨#[112, 114, 105, 109, 77, 111, 100]⟩))] [] = some (.pv (.lit (.bool true)), []) := by kernel_rfl
set_option maxRecDepth 100000 in
theorem run3_5 : evalF Try.prog okT tabT sp2 100000 30 3 [.pv (.lit (.string ⟨#[112, 114, 105, 109, 69, 113]⟩))] [] = some (.pv (.lit (.bool true)), []) := by kernel_rfl
set_option maxRecDepth 100000 in
theorem run3_6 : evalF Try.prog okT tabT sp2 100000 30 3 [.pv (.lit (.string ⟨#[112, 114, 105, 109, 76, 101, 115, 115]⟩))] [] = some (.pv (.lit (.bool true)), []) := by kernel_rfl
set_option maxRecDepth 100000 in
theorem run3_7 : evalF Try.prog okT tabT sp2 100000 30 3 [.pv (.lit (.string ⟨#[112, 114, 105, 109, 67, 97, 116]⟩))] [] = some (.pv (.lit (.bool true)), []) := by kernel_rfl
set_option maxRecDepth 100000 in
theorem run3_8 : evalF Try.prog okT tabT sp2 100000 30 3 [.pv (.lit (.string ⟨#[112, 114, 105, 109, 83, 97, 109, 101]⟩))] [] = some (.pv (.lit (.bool true)), []) := by kernel_rfl
set_option maxRecDepth 100000 in
theorem run3_9 : evalF Try.prog okT tabT sp2 100000 30 3 [.pv (.lit (.string ⟨#[112, 114, 105, 109, 66, 101, 102, 111, 114, 101]⟩))] [] = some (.pv (.lit (.bool true)), []) := by kernel_rfl
set_option maxRecDepth 100000 in
theorem run3_10 : evalF Try.prog okT tabT sp2 100000 30 3 [.pv (.lit (.string ⟨#[112, 114, 105, 109, 76, 101, 110]⟩))] [] = some (.pv (.lit (.bool true)), []) := by kernel_rfl
set_option maxRecDepth 100000 in
theorem run3_11 : evalF Try.prog okT tabT sp2 100000 30 3 [.pv (.lit (.string ⟨#[112, 114, 105, 109, 83, 104, 111, 119]⟩))] [] = some (.pv (.lit (.bool true)), []) := by kernel_rfl
set_option maxRecDepth 100000 in
theorem run3_12 : evalF Try.prog okT tabT sp2 100000 30 3 [.pv (.lit (.string ⟨#[112, 114, 105, 109, 80, 117, 116]⟩))] [] = some (.pv (.lit (.bool true)), []) := by kernel_rfl
set_option maxRecDepth 100000 in
theorem run3_13 : evalF Try.prog okT tabT sp2 100000 30 3 [.pv (.lit (.string ⟨#[112, 114, 105, 109, 71, 101, 116]⟩))] [] = some (.pv (.lit (.bool true)), []) := by kernel_rfl
set_option maxRecDepth 100000 in
theorem run3_14 : evalF Try.prog okT tabT sp2 100000 30 3 [.pv (.lit (.string ⟨#[112, 114, 105, 109, 78, 101, 119]⟩))] [] = some (.pv (.lit (.bool true)), []) := by kernel_rfl
set_option maxRecDepth 100000 in
theorem run3_15 : evalF Try.prog okT tabT sp2 100000 30 3 [.pv (.lit (.string ⟨#[112, 114, 105, 109, 82, 101, 97, 100]⟩))] [] = some (.pv (.lit (.bool true)), []) := by kernel_rfl
set_option maxRecDepth 100000 in
theorem run3_16 : evalF Try.prog okT tabT sp2 100000 30 3 [.pv (.lit (.string ⟨#[112, 114, 105, 109, 87, 114, 105, 116, 101]⟩))] [] = some (.pv (.lit (.bool true)), []) := by kernel_rfl
/-- A run of the law, at a text. -/
theorem law_of {a : AV} {s : ByteArray} (hv : VR K0 a (.string s)) (he : evalF Try.prog okT tabT sp2 100000 30 3 [a] [] = some (.pv (.lit (.bool true)), [])) (w : World) :
    Calls Try.prog 3 #[.string s] w fun e w' => e = .returned (.bool true) ∧ Below w.heap.size w w' := by
  refine (evalF_sound sp2_ok okT_ok tabT_ok mixed 30 3 [a] [] _ _ he K0 w [.string s] (WR.none w) (VL.single hv)).mono ?_
  rintro e w' ⟨u, K', rfl, hu, hst⟩
  exact ⟨by rw [val_eq hu rfl], hst.below⟩
theorem data_ext {s x : ByteArray} (h : s.data.toList = x.data.toList) : s = x := by
  cases s
  cases x
  congr
  exact Array.ext' h
theorem prims_any (s : ByteArray) (w : World) : Calls Try.prog 3 #[.string s] w fun e w' => e = .returned (.bool true) ∧ Below w.heap.size w w' := by
  by_cases hl : s.size ≤ 100
  · by_cases hn : ∃ x, x ∈ primNames ∧ s.data.toList = x.data.toList
    · obtain ⟨x, hx, he⟩ := hn
      have e := data_ext he
      subst e
      unfold primNames at hx
      simp only [List.mem_cons, List.not_mem_nil, or_false] at hx
      rcases hx with rfl | rfl | rfl | rfl | rfl | rfl | rfl | rfl | rfl | rfl | rfl | rfl | rfl | rfl | rfl | rfl | rfl
      · exact law_of (.pv (.lit _ rfl)) run3_0 w
      · exact law_of (.pv (.lit _ rfl)) run3_1 w
      · exact law_of (.pv (.lit _ rfl)) run3_2 w
      · exact law_of (.pv (.lit _ rfl)) run3_3 w
      · exact law_of (.pv (.lit _ rfl)) run3_4 w
      · exact law_of (.pv (.lit _ rfl)) run3_5 w
      · exact law_of (.pv (.lit _ rfl)) run3_6 w
      · exact law_of (.pv (.lit _ rfl)) run3_7 w
      · exact law_of (.pv (.lit _ rfl)) run3_8 w
      · exact law_of (.pv (.lit _ rfl)) run3_9 w
      · exact law_of (.pv (.lit _ rfl)) run3_10 w
      · exact law_of (.pv (.lit _ rfl)) run3_11 w
      · exact law_of (.pv (.lit _ rfl)) run3_12 w
      · exact law_of (.pv (.lit _ rfl)) run3_13 w
      · exact law_of (.pv (.lit _ rfl)) run3_14 w
      · exact law_of (.pv (.lit _ rfl)) run3_15 w
      · exact law_of (.pv (.lit _ rfl)) run3_16 w
    · refine law_of (.pv (.opq primNames 0 100 s (fun x hx he => hn ⟨x, hx, he⟩) (Nat.zero_le _) hl)) run3_out w
  · exact law_of (.pv (.opq [] 101 s.size s (fun x hx => by cases hx) (by omega) (Nat.le_refl _))) (run3_long _) w
end Go.Proofs.Ytfekieopkahcfaa
