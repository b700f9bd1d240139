/- What a pattern names, by the document. -/
import Derived.Test.YtmgmknpgikgnlaaGreatTa9
namespace Go.Proofs.YtmgmknpgikgnlaaGreat
open Go.RowKit

def vrow (l : VL1) : List (List PV) := l.map fun x => [sv x.1, ints x.2]
@[simp] theorem vrow_len (l : VL1) : (vrow l).length = l.length := by simp [vrow]
theorem vrow_app (a b : VL1) : vrow (a ++ b) = vrow a ++ vrow b := by simp [vrow]
@[simp] theorem ns_vrow (l : VL1) : NS (.rows (vrow l)) := .rows _ fun c hc p hp => by
  simp only [vrow, List.mem_map] at hc
  obtain ⟨x, _, rfl⟩ := hc
  simp at hp
  rcases hp with rfl | rfl
  · exact .lit _
  · exact ns_ints _
theorem s42 : SlT Tryz.prog 42 2 40 := SlT.of (by kernel_rfl)
theorem vrow_sz (l : VL1) : ∀ c ∈ vrow l, c.length = 2 := by
  intro c hc
  simp only [vrow, List.mem_map] at hc
  obtain ⟨x, _, rfl⟩ := hc
  rfl
theorem vrow_ne {l : VL1} (h : l ≠ []) : vrow l ≠ [] := by simpa [vrow] using h
theorem app42 (a b : VL1) (hne : b ≠ []) (hb : a.length + b.length ≤ 1000000000) {q : PV} : AppOk Tryz.prog 42 (.pv (.rows (vrow a))) (.pv (.rows (vrow b))) q ↔ q = .rows (vrow (a ++ b)) := by
  rw [vrow_app]
  exact app_ok s42 (s := .pv (.rows (vrow a))) (x := .pv (.rows (vrow b))) rfl rfl (vrow_ne hne) (vrow_sz b) (by simp; omega) (by simp; omega)
theorem app42n (b : VL1) (hne : b ≠ []) (hb : b.length ≤ 1000000000) {q : PV} : AppOk Tryz.prog 42 (.pv (.lit (.slice none 0 0))) (.pv (.rows (vrow b))) q ↔ q = .rows (vrow b) := by
  have := app_ok (q := q) s42 (s := .pv (.lit (.slice none 0 0))) (x := .pv (.rows (vrow b))) (es := []) (es' := vrow b) rfl rfl (vrow_ne hne) (vrow_sz b) (by simp; omega) (by simp; omega)
  simpa using this
theorem app42_0 (a : VL1) : App0Ok Tryz.prog 42 (.pv (.rows (vrow a))) (.pv (.rows (vrow []))) := app0_ok s42 rfl rfl
theorem app42n_0 : App0Ok Tryz.prog 42 (.pv (.lit (.slice none 0 0))) (.pv (.rows (vrow []))) := app0_ok s42 rfl rfl
def bxP : Pt → AObj
  | .mk k s n ks a => .box 32 [.pv (iv k), .pv (sv s), .pv (iv n), .pv (pts ks), .pv (iv a)]
@[simp] theorem obj_bxP (y : Pt) : NSO (bxP y) := by
  obtain ⟨k, s, n, ks, a⟩ := y
  simp [bxP]
def env9 (path : List Int) (v : AV) (i : Nat) : Env := [(6, .pv (iv i)), (2, .ptr 0 0), (1, .pv (ints path)), (5, v)]
def G3 (l : VL1) : AV × List AObj := if l = [] then (.pv (.lit (.slice none 0 0)), []) else (.trows 1 (vrow l), [.tok 45 2 (vrow l).length])
def G5 (c : Bool) (l : VL1) : AV × List AObj := if c then (.trows 2 (vrow l), [.dead, .tok 45 2 (vrow l).length]) else (.trows 1 (vrow l), [.tok 45 2 (vrow l).length])
theorem appP (path : List Int) (hp : path ≠ []) (hpl : path.length ≤ 10000000) {q : PV} : AppOk Tryz.prog 22 (.pv (.lit (.slice none 0 0))) (.pv (ints path)) q ↔ q = .rows (irow path) := app_nil hp (by omega)
theorem round95 (ks : List Pt) (path : List Int) (hpl : path.length ≤ 10000000) (hks : ks.length < 1000000000000) (k : Int) (s : ByteArray) (n a : Int) (i : Nat) (c : Pt) (hc : ks[i]? = some c) (ih : Sem Tryz.prog 9 [ptA c, .pv (ints (path ++ [(i : Int)]))] [] (.pv (.rows (vrow (c.vars (path ++ [(i : Int)]))))) []) (b : Bool) (acc : VL1) (hb : acc.length + (c.vars (path ++ [(i : Int)])).length ≤ 1000000000) (R : Nat → PV) :
    CodeB R Tryz.prog Tryz.f9.ntmps (lb Tryz.f9 0) 2 (env9 path (G5 b acc).1 i) (bxP (.mk k s n ks a) :: (G5 b acc).2) .normal (env9 path (G5 (b || nonE (c.vars (path ++ [(i : Int)]))) (acc ++ c.vars (path ++ [(i : Int)]))).1 (i + 1)) (bxP (.mk k s n ks a) :: (G5 (b || nonE (c.vars (path ++ [(i : Int)]))) (acc ++ c.vars (path ++ [(i : Int)]))).2) := by
  have hi := lt_of_get hc
  have hw := wrap_succ (k := i) (by omega)
  have hone : PV.rows [[iv (i : Int)]] = ints [(i : Int)] := rfl
  have hr := ih
  generalize c.vars (path ++ [(i : Int)]) = vs at hr hb ⊢
  obtain ⟨k1, s1, n1, ks1, a1⟩ := c
  simp only [ptA] at hr
  have ha : acc.length < symBase := by unfold symBase; omega
  have hav : acc.length + vs.length < symBase := by unfold symBase; omega
  cases b with
  | false =>
    simp only [G5, Bool.false_eq_true, if_false, env9, bxP]
    refine L9b0a (iv i) (ints path) (vrow acc) (iv k) (sv s) (iv n) (pts ks) (iv a) (by simp) (by simp [H9b0a, ha]) ?_ R
    by_cases hp : path = []
    · subst hp
      simp only [List.nil_append] at hr
      cases vs with
      | nil =>
        simp [T9b0a, G5, env9, nonE, bxP, hi, idx_pts hc, hw, app0_nil, hone]
        refine .inr ⟨_, hr, ?_⟩
        simp [app42_0 acc, ha]
      | cons v vs =>
        simp only [List.length_cons] at hav
        simp [T9b0a, G5, env9, nonE, bxP, hi, idx_pts hc, hw, app0_nil, hone]
        refine .inr ⟨_, hr, ?_⟩
        simp [app42 acc (v :: vs) (by simp) hb, hav, ha]
    · have hap := fun q => @app_one path i (by omega) q
      have ha1 := fun q => @appP path hp hpl q
      cases vs with
      | nil =>
        simp [T9b0a, G5, env9, nonE, bxP, hi, idx_pts hc, hw, ha1, hap]
        refine .inl ⟨_, hr, ?_⟩
        simp [app42_0 acc, ha]
      | cons v vs =>
        simp only [List.length_cons] at hav
        simp [T9b0a, G5, env9, nonE, bxP, hi, idx_pts hc, hw, ha1, hap]
        refine .inl ⟨_, hr, ?_⟩
        simp [app42 acc (v :: vs) (by simp) hb, hav, ha]
  | true =>
    simp only [G5, if_true, env9, bxP, Bool.true_or]
    refine L9b0c (iv i) (ints path) (vrow acc) (iv k) (sv s) (iv n) (pts ks) (iv a) (by simp) (by simp [H9b0c, ha]) ?_ R
    by_cases hp : path = []
    · subst hp
      simp only [List.nil_append] at hr
      cases vs with
      | nil =>
        simp [T9b0c, G5, env9, nonE, bxP, hi, idx_pts hc, hw, app0_nil, hone]
        refine .inr ⟨_, hr, ?_⟩
        simp [app42_0 acc, ha]
      | cons v vs =>
        simp only [List.length_cons] at hav
        simp [T9b0c, G5, env9, nonE, bxP, hi, idx_pts hc, hw, app0_nil, hone]
        refine .inr ⟨_, hr, ?_⟩
        simp [app42 acc (v :: vs) (by simp) hb, hav, ha]
    · have hap := fun q => @app_one path i (by omega) q
      have ha1 := fun q => @appP path hp hpl q
      cases vs with
      | nil =>
        simp [T9b0c, G5, env9, nonE, bxP, hi, idx_pts hc, hw, ha1, hap]
        refine .inl ⟨_, hr, ?_⟩
        simp [app42_0 acc, ha]
      | cons v vs =>
        simp only [List.length_cons] at hav
        simp [T9b0c, G5, env9, nonE, bxP, hi, idx_pts hc, hw, ha1, hap]
        refine .inl ⟨_, hr, ?_⟩
        simp [app42 acc (v :: vs) (by simp) hb, hav, ha]
theorem round93 (ks : List Pt) (path : List Int) (hpl : path.length ≤ 10000000) (hks : ks.length < 1000000000000) (k : Int) (s : ByteArray) (n a : Int) (i : Nat) (c : Pt) (hc : ks[i]? = some c) (ih : Sem Tryz.prog 9 [ptA c, .pv (ints (path ++ [(i : Int)]))] [] (.pv (.rows (vrow (c.vars (path ++ [(i : Int)]))))) []) (acc : VL1) (hb : acc.length + (c.vars (path ++ [(i : Int)])).length ≤ 1000000000) (R : Nat → PV) :
    CodeB R Tryz.prog Tryz.f9.ntmps (lb Tryz.f9 0) 1 (env9 path (G3 acc).1 i) (bxP (.mk k s n ks a) :: (G3 acc).2) .normal (env9 path (G3 (acc ++ c.vars (path ++ [(i : Int)]))).1 (i + 1)) (bxP (.mk k s n ks a) :: (G3 (acc ++ c.vars (path ++ [(i : Int)]))).2) := by
  have hi := lt_of_get hc
  have hw := wrap_succ (k := i) (by omega)
  have hone : PV.rows [[iv (i : Int)]] = ints [(i : Int)] := rfl
  have hr := ih
  generalize c.vars (path ++ [(i : Int)]) = vs at hr hb ⊢
  obtain ⟨k1, s1, n1, ks1, a1⟩ := c
  simp only [ptA] at hr
  have ha : acc.length < symBase := by unfold symBase; omega
  have hav : acc.length + vs.length < symBase := by unfold symBase; omega
  by_cases h0 : acc = []
  · subst h0
    simp only [G3, if_true, env9, bxP, List.nil_append]
    refine L9b0b (iv i) (ints path) (iv k) (sv s) (iv n) (pts ks) (iv a) (by simp) (by simp [H9b0b]) ?_ R
    by_cases hp : path = []
    · subst hp
      simp only [List.nil_append] at hr
      cases vs with
      | nil =>
        simp [T9b0b, G3, env9, bxP, hi, idx_pts hc, hw, app0_nil, hone]
        refine .inr ⟨_, hr, ?_⟩
        simp [app42n_0]
      | cons v vs =>
        simp only [List.length_cons, List.length_nil, Nat.zero_add] at hav
        simp [T9b0b, G3, env9, bxP, hi, idx_pts hc, hw, app0_nil, hone]
        refine .inr ⟨_, hr, ?_⟩
        simp [app42n (v :: vs) (by simp) (by simpa using hb), hav]
    · have hap := fun q => @app_one path i (by omega) q
      have ha1 := fun q => @appP path hp hpl q
      cases vs with
      | nil =>
        simp [T9b0b, G3, env9, bxP, hi, idx_pts hc, hw, ha1, hap]
        refine .inl ⟨_, hr, ?_⟩
        simp [app42n_0]
      | cons v vs =>
        simp only [List.length_cons, List.length_nil, Nat.zero_add] at hav
        simp [T9b0b, G3, env9, bxP, hi, idx_pts hc, hw, ha1, hap]
        refine .inl ⟨_, hr, ?_⟩
        simp [app42n (v :: vs) (by simp) (by simpa using hb), hav]
  · have h0' : ∀ x : VL1, acc ++ x ≠ [] := fun x h => h0 (List.append_eq_nil_iff.1 h).1
    simp only [G3, if_neg h0, if_neg (h0' _), env9, bxP]
    refine L9b0d (iv i) (ints path) (vrow acc) (iv k) (sv s) (iv n) (pts ks) (iv a) (by simp) (by simp [H9b0d, ha]) ?_ R
    by_cases hp : path = []
    · subst hp
      simp only [List.nil_append] at hr
      cases vs with
      | nil =>
        simp [T9b0d, G3, env9, h0, bxP, hi, idx_pts hc, hw, app0_nil, hone]
        refine .inr ⟨_, hr, ?_⟩
        simp [app42_0 acc, ha]
      | cons v vs =>
        simp only [List.length_cons] at hav
        simp [T9b0d, G3, env9, h0, bxP, hi, idx_pts hc, hw, app0_nil, hone]
        refine .inr ⟨_, hr, ?_⟩
        simp [app42 acc (v :: vs) (by simp) hb, hav, ha]
    · have hap := fun q => @app_one path i (by omega) q
      have ha1 := fun q => @appP path hp hpl q
      cases vs with
      | nil =>
        simp [T9b0d, G3, env9, h0, bxP, hi, idx_pts hc, hw, ha1, hap]
        refine .inl ⟨_, hr, ?_⟩
        simp [app42_0 acc, ha]
      | cons v vs =>
        simp only [List.length_cons] at hav
        simp [T9b0d, G3, env9, h0, bxP, hi, idx_pts hc, hw, ha1, hap]
        refine .inl ⟨_, hr, ?_⟩
        simp [app42 acc (v :: vs) (by simp) hb, hav, ha]
theorem loop95 (ks : List Pt) (path : List Int) (hpl : path.length ≤ 10000000) (hks : ks.length < 1000000000000) (k : Int) (s : ByteArray) (n a : Int) (ih : ∀ (i : Nat) (c : Pt), ks[i]? = some c → (c.vars (path ++ [(i : Int)])).length ≤ 1000000000 → Sem Tryz.prog 9 [ptA c, .pv (ints (path ++ [(i : Int)]))] [] (.pv (.rows (vrow (c.vars (path ++ [(i : Int)]))))) []) (acc0 : VL1) (hN : acc0.length + (Pt.varsL ks path 0).length ≤ 1000000000) :
    LoopS Tryz.prog Tryz.f9 0 2 (env9 path (G5 false acc0).1 0) (bxP (.mk k s n ks a) :: (G5 false acc0).2) (.exit 0) [(5, (G5 (nonE (Pt.varsL ks path 0)) (acc0 ++ (Pt.varsL ks path 0))).1)] (bxP (.mk k s n ks a) :: (G5 (nonE (Pt.varsL ks path 0)) (acc0 ++ (Pt.varsL ks path 0))).2) := by
  have main := list_loop (P := Tryz.prog) (fn := Tryz.f9) (id := 0) (m0 := 2) (ex := .exit 0) ks (fun d i => (env9 path (G5 (nonE d) (acc0 ++ d)).1 i, bxP (.mk k s n ks a) :: (G5 (nonE d) (acc0 ++ d)).2)) (fun d => ([(5, (G5 (nonE d) (acc0 ++ d)).1)], bxP (.mk k s n ks a) :: (G5 (nonE d) (acc0 ++ d)).2)) (fun i d => d ++ Pt.varsL (ks.drop i) path (0 + i) = Pt.varsL ks path 0) (by simp) ?_ ?_ _ 0 [] rfl (Nat.zero_le _) (by simp)
  · obtain ⟨d, h1, h2⟩ := main
    rw [List.drop_of_length_le (Nat.le_refl _), Pt.varsL, List.append_nil] at h1
    subst h1
    simpa [nonE] using h2
  · intro i c hc d hd
    have hv := @Pt.varsL_drop path ks i 0 c hc
    simp only [Nat.zero_add] at hv hd ⊢
    rw [hv, ← List.append_assoc] at hd
    have hlen := congrArg List.length hd
    simp only [List.length_append] at hlen
    refine ⟨d ++ c.vars (path ++ [(i : Int)]), hd, fun R => ?_⟩
    have := round95 ks path hpl hks k s n a i c hc (ih i c hc (by omega)) (nonE d) (acc0 ++ d) (by rw [List.length_append]; omega) R
    rw [nonE_app, ← List.append_assoc]; exact this
  · intro d hd R
    rw [List.drop_of_length_le (Nat.le_refl _), Pt.varsL, List.append_nil] at hd
    subst hd
    generalize Pt.varsL ks path 0 = d at hN ⊢
    have ha : acc0.length + d.length < symBase := by unfold symBase; omega
    cases nonE d with
    | false =>
      simp only [G5, Bool.false_eq_true, if_false, env9, bxP]
      refine L9b0a (iv ks.length) (ints path) (vrow (acc0 ++ d)) (iv k) (sv s) (iv n) (pts ks) (iv a) (by simp) (by simp [H9b0a, ha]) ?_ R
      simp [T9b0a, ha]
    | true =>
      simp only [G5, if_true, env9, bxP]
      refine L9b0c (iv ks.length) (ints path) (vrow (acc0 ++ d)) (iv k) (sv s) (iv n) (pts ks) (iv a) (by simp) (by simp [H9b0c, ha]) ?_ R
      simp [T9b0c, ha]
theorem loop93 (ks : List Pt) (path : List Int) (hpl : path.length ≤ 10000000) (hks : ks.length < 1000000000000) (k : Int) (s : ByteArray) (n a : Int) (ih : ∀ (i : Nat) (c : Pt), ks[i]? = some c → (c.vars (path ++ [(i : Int)])).length ≤ 1000000000 → Sem Tryz.prog 9 [ptA c, .pv (ints (path ++ [(i : Int)]))] [] (.pv (.rows (vrow (c.vars (path ++ [(i : Int)]))))) []) (hN : (Pt.varsL ks path 0).length ≤ 1000000000) :
    LoopS Tryz.prog Tryz.f9 0 1 (env9 path (G3 []).1 0) (bxP (.mk k s n ks a) :: (G3 []).2) (.exit 0) [(5, (G3 (Pt.varsL ks path 0)).1)] (bxP (.mk k s n ks a) :: (G3 (Pt.varsL ks path 0)).2) := by
  have main := list_loop (P := Tryz.prog) (fn := Tryz.f9) (id := 0) (m0 := 1) (ex := .exit 0) ks (fun d i => (env9 path (G3 d).1 i, bxP (.mk k s n ks a) :: (G3 d).2)) (fun d => ([(5, (G3 d).1)], bxP (.mk k s n ks a) :: (G3 d).2)) (fun i d => d ++ Pt.varsL (ks.drop i) path (0 + i) = Pt.varsL ks path 0) (by simp) ?_ ?_ _ 0 [] rfl (Nat.zero_le _) (by simp)
  · obtain ⟨d, h1, h2⟩ := main
    rw [List.drop_of_length_le (Nat.le_refl _), Pt.varsL, List.append_nil] at h1
    subst h1
    exact h2
  · intro i c hc d hd
    have hv := @Pt.varsL_drop path ks i 0 c hc
    simp only [Nat.zero_add] at hv hd ⊢
    rw [hv, ← List.append_assoc] at hd
    have hlen := congrArg List.length hd
    simp only [List.length_append] at hlen
    refine ⟨d ++ c.vars (path ++ [(i : Int)]), hd, fun R => ?_⟩
    have := round93 ks path hpl hks k s n a i c hc (ih i c hc (by omega)) d (by omega) R
    exact this
  · intro d hd R
    rw [List.drop_of_length_le (Nat.le_refl _), Pt.varsL, List.append_nil] at hd
    subst hd
    generalize Pt.varsL ks path 0 = d at hN ⊢
    have ha : d.length < symBase := by unfold symBase; omega
    by_cases h0 : d = []
    · subst h0
      simp only [G3, if_true, env9, bxP]
      refine L9b0b (iv ks.length) (ints path) (iv k) (sv s) (iv n) (pts ks) (iv a) (by simp) (by simp [H9b0b]) ?_ R
      simp [T9b0b]
    · simp only [G3, if_neg h0, env9, bxP]
      refine L9b0d (iv ks.length) (ints path) (vrow d) (iv k) (sv s) (iv n) (pts ks) (iv a) (by simp) (by simp [H9b0d, ha]) ?_ R
      simp [T9b0d, ha]
theorem vars9 {d : Nat} {p : Pt} (h : p.Ok d) : ∀ path : List Int, path.length + d ≤ 10000000 → (p.vars path).length ≤ 1000000000 → Sem Tryz.prog 9 [ptA p, .pv (ints path)] [] (.pv (.rows (vrow (p.vars path)))) [] := by
  induction h with
  | mk d k s n ks a hks _ ih =>
    intro path hpl hN
    have ihk : ∀ (i : Nat) (c : Pt), ks[i]? = some c → (c.vars (path ++ [(i : Int)])).length ≤ 1000000000 → Sem Tryz.prog 9 [ptA c, .pv (ints (path ++ [(i : Int)]))] [] (.pv (.rows (vrow (c.vars (path ++ [(i : Int)]))))) [] := fun i c hc hl => ih c (List.mem_of_getElem? hc) _ (by simp; omega) hl
    rw [Pt.vars] at hN ⊢
    by_cases hk : k = 2
    · subst hk
      rw [if_pos rfl] at hN ⊢
      simp only [List.length_append, List.length_singleton] at hN
      have hL := loop95 ks path (by omega) hks 2 s n a ihk [(s, path)] (by simpa using hN)
      have hB := LoopS.block f9_loop0 (objs_cons (obj_bxP _) (show ∀ x ∈ (G5 false [(s, path)]).2, NSO x by simp [G5, one_lt])) hL
      generalize Pt.varsL ks path 0 = vl at hN hB ⊢
      have hlt : vl.length + 1 < symBase := by unfold symBase; omega
      have e1 : vrow [(s, path)] = [[sv s, ints path]] := rfl
      cases vl with
      | nil =>
        simp [env9, G5, nonE, bxP, e1] at hB
        exact (F9 (iv 2) (sv s) (iv n) (pts ks) (iv a) (ints path) (by simp) (v := .trows 0 [[sv s, ints path]]) (h' := [.tok 45 2 1]) (by simp [T9, one_lt]; exact .inl hB)).forget (by rfl)
      | cons v vl =>
        simp [env9, G5, nonE, bxP, e1] at hB
        simp at hlt
        exact (F9 (iv 2) (sv s) (iv n) (pts ks) (iv a) (ints path) (by simp) (v := .trows 0 (vrow ((s, path) :: v :: vl))) (h' := [.tok 45 2 (vrow ((s, path) :: v :: vl)).length]) (by
          simp [T9]
          refine ⟨.rows (vrow ((s, path) :: v :: vl)), by simpa using hB, ?_⟩
          simp [hlt, one_lt])).forget (by rfl)
    · rw [if_neg hk, List.nil_append] at hN ⊢
      have hL := loop93 ks path (by omega) hks k s n a ihk hN
      have hB := LoopS.block f9_loop0 (objs_cons (obj_bxP _) (show ∀ x ∈ (G3 []).2, NSO x by simp [G3])) hL
      generalize Pt.varsL ks path 0 = vl at hN hB ⊢
      have hlt : vl.length < symBase := by unfold symBase; omega
      cases vl with
      | nil =>
        simp [env9, G3, bxP] at hB
        exact (F9 (iv k) (sv s) (iv n) (pts ks) (iv a) (ints path) (by simp) (v := .pv (.lit (.slice none 0 0))) (h' := []) (by simp [T9, hk]; exact hB)).forget (by rfl)
      | cons v vl =>
        simp [env9, G3, bxP] at hB
        simp at hlt
        exact (F9 (iv k) (sv s) (iv n) (pts ks) (iv a) (ints path) (by simp) (v := .trows 0 (vrow (v :: vl))) (h' := [.tok 45 2 (vrow (v :: vl)).length]) (by
          simp [T9, hk]
          refine ⟨.rows (vrow (v :: vl)), by simpa using hB, ?_⟩
          simp [hlt])).forget (by rfl)
end Go.Proofs.YtmgmknpgikgnlaaGreat
