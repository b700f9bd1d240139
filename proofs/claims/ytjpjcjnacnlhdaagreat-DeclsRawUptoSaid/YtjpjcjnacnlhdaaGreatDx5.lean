/- The chapter's examples are as they should be. -/
import Derived.Test.YtjpjcjnacnlhdaaGreatBi
import Derived.Test.YtjpjcjnacnlhdaaGreatBh
import Derived.Test.YtjpjcjnacnlhdaaGreatDz0
namespace Go.Proofs.YtjpjcjnacnlhdaaGreat
open Go.RowKit
set_option linter.unusedSimpArgs false
set_option linter.unusedVariables false

def t6 : FT where
  keep := []
  kb := fun
    | _ => []
  sd := fun
    | _ => []
theorem f6_at : Tryz.prog.funcs[6]? = some Tryz.f6 := by kernel_rfl
theorem f6_body : Tryz.f6.body.isSome = true := by kernel_rfl
theorem f6_tab : tabOk t6.sd t6.sx (bodyOf Tryz.f6) = true := by kernel_rfl
-- paths: 5
def T6 : Tr := .call ⟨7, [.pv (.lit (.string exSrc1))], [], .tup [.agg [.pv (.sym 0), .pv (.sym 1), .pv (.sym 2), .pv (.sym 3)], .pv (.sym 4), .pv (.sym 5)], []⟩ 6 (.call ⟨7, [.pv (.lit (.string exSrc2))], [], .tup [.agg [.pv (.sym 6), .pv (.sym 7), .pv (.sym 8), .pv (.sym 9)], .pv (.sym 10), .pv (.sym 11)], []⟩ 6 (.call ⟨7, [.pv (.lit (.string exSrc3))], [], .tup [.agg [.pv (.sym 12), .pv (.sym 13), .pv (.sym 14), .pv (.sym 15)], .pv (.sym 16), .pv (.sym 17)], []⟩ 6 (.call ⟨8, [.agg [.pv (.sym 0), .pv (.sym 1), .pv (.sym 2), .pv (.sym 3)]], [], .tup [.agg [.pv (.sym 18), .pv (.sym 19), .pv (.sym 20)], .agg [.pv (.sym 21), .pv (.sym 22)]], []⟩ 5 (.call ⟨8, [.agg [.pv (.sym 6), .pv (.sym 7), .pv (.sym 8), .pv (.sym 9)]], [], .tup [.agg [.pv (.sym 23), .pv (.sym 24), .pv (.sym 25)], .agg [.pv (.sym 26), .pv (.sym 27)]], []⟩ 5 (.call ⟨8, [.agg [.pv (.sym 12), .pv (.sym 13), .pv (.sym 14), .pv (.sym 15)]], [], .tup [.agg [.pv (.sym 28), .pv (.sym 29), .pv (.sym 30)], .agg [.pv (.sym 31), .pv (.sym 32)]], []⟩ 5 (.alt (.say (.bin .eql 33 (.pv (.sym 21)) (.pv (.lit (.int .i64 125))) (.pv (.lit (.bool true)))) 0 (.alt (.say (.bin .eql 33 (.pv (.sym 26)) (.pv (.lit (.int .i64 126))) (.pv (.lit (.bool true)))) 0 (.alt (.say (.bin .eql 33 (.pv (.sym 31)) (.pv (.lit (.int .i64 0))) (.pv (.lit (.bool true)))) 0 (.say (.len 23 (.pv (.sym 28)) (.pv (.sym 33))) 1 (.alt (.say (.bin .eql 3 (.pv (.sym 33)) (.pv (.lit (.int .i64 1))) (.pv (.lit (.bool true)))) 0 (.ret (.pv (.lit (.bool true))) [])) (.say (.bin .eql 3 (.pv (.sym 33)) (.pv (.lit (.int .i64 1))) (.pv (.lit (.bool false)))) 0 (.ret (.pv (.lit (.bool false))) []))))) (.say (.bin .eql 33 (.pv (.sym 31)) (.pv (.lit (.int .i64 0))) (.pv (.lit (.bool false)))) 0 (.ret (.pv (.lit (.bool false))) [])))) (.say (.bin .eql 33 (.pv (.sym 26)) (.pv (.lit (.int .i64 126))) (.pv (.lit (.bool false)))) 0 (.ret (.pv (.lit (.bool false))) [])))) (.say (.bin .eql 33 (.pv (.sym 21)) (.pv (.lit (.int .i64 125))) (.pv (.lit (.bool false)))) 0 (.ret (.pv (.lit (.bool false))) []))))))))
def A6 : List AV := []
def H6 : List AObj := []
set_option maxRecDepth 100000 in
theorem c6 : chk Tryz.prog (leafF Tryz.prog t6 6 A6 H6) T6 0 [] [] [] = true := by kernel_rfl
theorem F6  (hn : NSL []) {v : AV} {h' : List AObj} (hd : Den Tryz.prog Tryz.f6 T6 [] (.ret v h')) :
    Sem Tryz.prog 6 [] [] v h' :=
  fun_rule f6_at f6_body mixed f6_tab (args := A6) (h := H6) (by kernel_rfl) c6 rfl hn (by simp only [A6, TsAs, TsA, nm, isRow, List.getD_cons_zero, List.getD_cons_succ, and_self, and_true]) (by trivial) hd

mutual
def nsPD : PV → Bool
  | .sym _ => false
  | .rows es => nsPDss es
  | _ => true
def nsPDs : List PV → Bool
  | [] => true
  | p :: l => nsPD p && nsPDs l
def nsPDss : List (List PV) → Bool
  | [] => true
  | c :: l => nsPDs c && nsPDss l
end
mutual
theorem nsPD_ok : ∀ p : PV, nsPD p = true → NS p
  | .lit v, _ => .lit v
  | .rows es, h => by
    have := nsPDss_ok es
    rw [nsPD] at h
    exact .rows _ (this h)
  | .opq .., _ => .opq ..
  | .rng .., _ => .rng ..
  | .any, _ => .any
theorem nsPDs_ok : ∀ l : List PV, nsPDs l = true → ∀ p ∈ l, NS p
  | [], _, p, hp => by cases hp
  | q :: l, h, p, hp => by
    have h1 := nsPD_ok q
    have h2 := nsPDs_ok l
    rw [nsPDs, Bool.and_eq_true] at h
    rcases List.mem_cons.1 hp with e | hp
    · rw [e]; exact h1 h.1
    · exact h2 h.2 p hp
theorem nsPDss_ok : ∀ l : List (List PV), nsPDss l = true → ∀ c ∈ l, ∀ p ∈ c, NS p
  | [], _, p, hp => by cases hp
  | q :: l, h, c, hc => by
    have h1 := nsPDs_ok q
    have h2 := nsPDss_ok l
    rw [nsPDss, Bool.and_eq_true] at h
    rcases List.mem_cons.1 hc with e | hc
    · rw [e]; exact h1 h.1
    · exact h2 h.2 c hc
end
@[simp] theorem ns_exD1 : NS exD1 := nsPD_ok _ (by kernel_rfl)
@[simp] theorem ns_exC1 : NS exC1 := nsPD_ok _ (by kernel_rfl)
@[simp] theorem ns_exI1 : NS exI1 := nsPD_ok _ (by kernel_rfl)
@[simp] theorem ns_exB1 : NS exB1 := nsPD_ok _ (by kernel_rfl)
@[simp] theorem ns_exD2 : NS exD2 := nsPD_ok _ (by kernel_rfl)
@[simp] theorem ns_exC2 : NS exC2 := nsPD_ok _ (by kernel_rfl)
@[simp] theorem ns_exI2 : NS exI2 := nsPD_ok _ (by kernel_rfl)
@[simp] theorem ns_exB2 : NS exB2 := nsPD_ok _ (by kernel_rfl)
@[simp] theorem ns_exD3 : NS exD3 := nsPD_ok _ (by kernel_rfl)
@[simp] theorem ns_exC3 : NS exC3 := nsPD_ok _ (by kernel_rfl)
@[simp] theorem ns_exI3 : NS exI3 := nsPD_ok _ (by kernel_rfl)
@[simp] theorem ns_exB3 : NS exB3 := nsPD_ok _ (by kernel_rfl)
theorem awake_sem : Sem Tryz.prog 6 [] [] (.pv (bv true)) [] := by
  have p1 : Sem Tryz.prog 7 _ _ _ _ := ex_p1
  have p2 : Sem Tryz.prog 7 _ _ _ _ := ex_p2
  have p3 : Sem Tryz.prog 7 _ _ _ _ := ex_p3
  have q1 : Sem Tryz.prog 8 _ _ _ _ := ex_c1
  have q2 : Sem Tryz.prog 8 _ _ _ _ := ex_c2
  have q3 : Sem Tryz.prog 8 _ _ _ _ := ex_c3
  refine F6 (by simp) ?_
  simp [T6]
  refine ⟨_, _, _, _, _, _, p1, ⟨_, _, _, _, _, _, p2, ⟨_, _, _, _, _, _, p3, ⟨_, _, _, _, _, q1, ⟨_, _, _, _, _, q2, ⟨_, _, _, _, _, q3, ?_⟩, by simp⟩, by simp⟩, by simp⟩, by simp⟩, by simp⟩
  simp [len_ok sl_dts]
  exact nsPD_ok _ (by kernel_rfl)
end Go.Proofs.YtjpjcjnacnlhdaaGreat
