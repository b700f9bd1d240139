/- The tables for the closed run: their end. -/
import Derived.Test.YtlfkefbhdmfllaaGreatDoorJt1
namespace Go.Proofs.YtlfkefbhdmfllaaGreatDoor
theorem elem_lt (n : Nat) (L : List Nat) (h : L.all (fun x => Nat.blt x n) = true) (f : Nat) (hf : n ≤ f) : L.elem f = false := by
  cases he : L.elem f with
  | false => rfl
  | true =>
    have hm : f ∈ L := List.mem_of_elem_eq_true he
    have h1 := List.all_eq_true.1 h f hm
    have h2 : f + 1 ≤ n := Nat.le_of_ble_eq_true h1
    omega
set_option maxRecDepth 100000 in
theorem okT_last : ∀ f, 252 ≤ f → okT f = false := fun f hf => elem_lt 252 _ (by kernel_rfl) f hf
theorem okT_ok : ∀ f, okT f = true → callable Tryz.prog f = true := okf_of okT_last ok_all
theorem tabT_ok : tabsOk Tryz.prog tabT := tabsOk_of funcs_size tab_all
def sp0 : Nat → List AV → List AObj → Option (AV × List AObj) := fun _ _ _ => none
theorem sp0_ok (R : Nat → PV) : CallsOk R Tryz.prog sp0 := fun _ _ _ _ _ h => by cases h
end Go.Proofs.YtlfkefbhdmfllaaGreatDoor
