/- Joined texts. -/
import Derived.Test.YtijcobeebaceoaaGreatDoorJt1
import Derived.Test.YtijcobeebaceoaaGreatDoorBm
import Derived.Test.YtijcobeebaceoaaGreatDoorKy0
import Derived.Test.YtijcobeebaceoaaGreatDoorBy
namespace Go.Proofs.YtijcobeebaceoaaGreatDoor
open Go.RowKit
def tx1 : ByteArray := ⟨#[102, 32, 120, 32, 43, 32, 49]⟩
def tx2 : ByteArray := ⟨#[92, 120, 32, 45, 62, 32]⟩
def tx3 : ByteArray := ⟨#[97, 32, 61, 61, 32, 98, 32, 61, 61, 32, 99]⟩
def tl1 : List Lx.Tok := [⟨1, ⟨#[102]⟩, 0, 0⟩, ⟨1, ⟨#[120]⟩, 0, 2⟩, ⟨5, ⟨#[43]⟩, 0, 4⟩, ⟨3, ⟨#[49]⟩, 1, 6⟩, ⟨0, ⟨#[]⟩, 0, 7⟩]
def tl2 : List Lx.Tok := [⟨7, ⟨#[92]⟩, 0, 0⟩, ⟨1, ⟨#[120]⟩, 0, 1⟩, ⟨7, ⟨#[45, 62]⟩, 0, 3⟩, ⟨0, ⟨#[]⟩, 0, 6⟩]
def tl3 : List Lx.Tok := [⟨1, ⟨#[97]⟩, 0, 0⟩, ⟨5, ⟨#[61, 61]⟩, 0, 2⟩, ⟨1, ⟨#[98]⟩, 0, 5⟩, ⟨5, ⟨#[61, 61]⟩, 0, 7⟩, ⟨1, ⟨#[99]⟩, 0, 10⟩, ⟨0, ⟨#[]⟩, 0, 11⟩]
set_option maxRecDepth 100000 in
theorem tl1_ok : Lx.scanP tx1 = .ok tl1 := by kernel_rfl
set_option maxRecDepth 100000 in
theorem tl2_ok : Lx.scanP tx2 = .ok tl2 := by kernel_rfl
set_option maxRecDepth 100000 in
theorem tl3_ok : Lx.scanP tx3 = .ok tl3 := by kernel_rfl
def ansK (ts : List Lx.Tok) : AV × List AObj := (.tup [.pv (tks (ts.map ofTok)), .agg [.pv (iv 0), .pv (iv 0)]], [])
def spS (b : ByteArray) : Option (AV × List AObj) := match eqS tx1 b with
  | true => some (ansK tl1)
  | false => match eqS tx2 b with
    | true => some (ansK tl2)
    | false => match eqS tx3 b with
      | true => some (ansK tl3)
      | false => none
def spK (f : Nat) (args : List AV) (h : List AObj) : Option (AV × List AObj) := match Nat.beq f 42 with
  | true => match args, h with
    | [.pv (.lit (.string b))], [] => spS b
    | _, _ => none
  | false => none
theorem ansK_ok (R : Nat → PV) {b : ByteArray} {ts : List Lx.Tok} (h : Lx.scanP b = .ok ts) (hb : b.size ≤ maxLen) (hn : ts ≠ []) : CallOk R Tryz.prog 42 [.pv (sv b)] [] (ansK ts).1 (ansK ts).2 := by
  have g := scan_sem b hb (fun t e => by rw [h] at e; cases e; exact hn) R
  rw [h] at g
  exact g
theorem spK_ok (R : Nat → PV) : CallsOk R Tryz.prog spK := by
  intro f args h v h' he
  unfold spK at he
  split at he
  · rename_i hf
    have hf := Nat.eq_of_beq_eq_true hf
    subst hf
    split at he
    · rename_i b
      unfold spS at he
      split at he
      · rename_i hs
        have := eqS_eq' hs
        subst this
        cases he
        exact ansK_ok R tl1_ok (by decide) (by simp [tl1])
      · split at he
        · rename_i hs
          have := eqS_eq' hs
          subst this
          cases he
          exact ansK_ok R tl2_ok (by decide) (by simp [tl2])
        · split at he
          · rename_i hs
            have := eqS_eq' hs
            subst this
            cases he
            exact ansK_ok R tl3_ok (by decide) (by simp [tl3])
          · cases he
    · cases he
  · cases he
end Go.Proofs.YtijcobeebaceoaaGreatDoor
namespace Go.Proofs.YtijcobeebaceoaaGreatDoor
open Go.RowKit
set_option maxRecDepth 100000 in
theorem awake_run : evalF Tryz.prog okT tabT spK 100000 60 6 [] [] = some (.pv (.lit (.bool true)), []) := by kernel_rfl
theorem awake_sem : Sem Tryz.prog 6 [] [] (.pv (bv true)) [] := fun R => evalF_sound (spK_ok R) okT_ok tabT_ok (fun _ => rfl) mixed 60 _ _ _ _ _ awake_run
end Go.Proofs.YtijcobeebaceoaaGreatDoor
namespace Go.Proofs.YtijcobeebaceoaaGreatDoor
open Go.RowKit
set_option linter.unusedSimpArgs false
set_option linter.unusedVariables false
set_option linter.unusedSectionVars false

theorem law_sem (b : ByteArray) : Sem Tryz.prog 3 [.pv (sv b)] [] (.pv (bv true)) [] := by
  have sa := awake_sem
  refine F3 (sv b) (by simp) ?_
  unfold T3
  rw [Den]
  refine .inl ?_
  rw [Den, exN]
  refine ⟨?_, ?_⟩
  · exact ⟨sa, trivial, trivial⟩
  rw [Den, exN]
  refine ⟨iv b.size, ?_⟩
  rw [exN]
  refine ⟨⟨(len_str uS b).2 rfl, ?_⟩, by simp⟩
  rw [Den]
  by_cases h0 : 4000 < (b.size : Int)
  · refine .inl ?_
    rw [Den, exN]
    refine ⟨bin_gtr.2 (by simp [h0]), ?_⟩
    rw [Den]
    exact ⟨rfl, by simp only [TsAs, TsA, and_self], trivial⟩
  · refine .inr ?_
    rw [Den, exN]
    refine ⟨bin_gtr.2 (by simp [h0]), ?_⟩
    have s1 := ptype_sem b (by unfold maxLen; omega)
    have s2 := rtype_sem b
    have hx := type_x b
    rw [Den]
    simp only [exN, List.append_assoc, List.cons_append, List.nil_append]
    cases hr : typS b with
    | out => rw [hr] at hx; exact hx.elim
    | ok v a =>
      rw [hr] at s1 s2 hx
      have s3 := same_sem (iv v.kind) (sv v.name) (iv v.n) (tys v.kids) (by simp [NSL_cons, NSL_nil]) (type_same hx.2)
      refine ⟨iv v.kind, sv v.name, iv v.n, tys v.kids, iv 0, iv 0, ⟨⟨⟨⟨⟨⟨⟨⟨s1, by trivial, by trivial⟩, ?_⟩, by simp⟩, by simp⟩, by simp⟩, by simp⟩, by simp⟩, by simp⟩⟩
      rw [Den]
      simp only [exN, List.append_assoc, List.cons_append, List.nil_append]
      refine ⟨iv v.kind, sv v.name, iv v.n, tys v.kids, iv 0, iv 0, ⟨⟨⟨⟨⟨⟨⟨⟨s2, by trivial, by trivial⟩, ?_⟩, by simp⟩, by simp⟩, by simp⟩, by simp⟩, by simp⟩, by simp⟩⟩
      rw [Den]
      refine .inl ?_
      rw [Den, exN]
      refine ⟨bin_eql.2 (by simp), ?_⟩
      rw [Den]
      refine .inl ?_
      rw [Den, exN]
      refine ⟨bin_eql.2 (by simp), ?_⟩
      rw [Den]
      refine .inl ?_
      rw [Den, exN]
      refine ⟨⟨s3, by trivial, by trivial⟩, ?_⟩
      rw [Den]
      exact ⟨rfl, by simp only [TsAs, TsA, and_self], trivial⟩
    | err e w =>
      rw [hr] at s1 s2 hx
      have s3 := same_sem (iv 0) (sv eB) (iv 0) nS (by simp [NSL_cons, NSL_nil]) zero_same
      refine ⟨iv 0, sv eB, iv 0, nS, iv e, iv w, ⟨⟨⟨⟨⟨⟨⟨⟨s1, by trivial, by trivial⟩, ?_⟩, by simp⟩, by simp⟩, by simp⟩, by simp⟩, by simp⟩, by simp⟩⟩
      rw [Den]
      simp only [exN, List.append_assoc, List.cons_append, List.nil_append]
      refine ⟨iv 0, sv eB, iv 0, nS, iv e, iv w, ⟨⟨⟨⟨⟨⟨⟨⟨s2, by trivial, by trivial⟩, ?_⟩, by simp⟩, by simp⟩, by simp⟩, by simp⟩, by simp⟩, by simp⟩⟩
      rw [Den]
      refine .inl ?_
      rw [Den, exN]
      refine ⟨bin_eql.2 (by simp), ?_⟩
      rw [Den]
      refine .inl ?_
      rw [Den, exN]
      refine ⟨bin_eql.2 (by simp), ?_⟩
      rw [Den]
      refine .inl ?_
      rw [Den, exN]
      refine ⟨⟨s3, by trivial, by trivial⟩, ?_⟩
      rw [Den]
      exact ⟨rfl, by simp only [TsAs, TsA, and_self], trivial⟩
end Go.Proofs.YtijcobeebaceoaaGreatDoor
