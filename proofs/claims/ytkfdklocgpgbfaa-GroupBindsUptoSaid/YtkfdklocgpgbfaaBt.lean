/- Joined texts. -/
import Derived.Test.YtkfdklocgpgbfaaBs
import Derived.Test.YtkfdklocgpgbfaaBg
set_option linter.unusedVariables false
set_option linter.unusedSimpArgs false
set_option linter.unusedSectionVars false
namespace Go.Proofs.Ytkfdklocgpgbfaa
open Go.RowKit
/-- More names, each once. -/
def joinL : List ByteArray → List ByteArray → List ByteArray
  | O, [] => O
  | O, m :: ms => joinL (if hasS m O = true then O else O ++ [m]) ms
/-- Without what is gone. -/
def woL (l gone : List ByteArray) : List ByteArray := l.filter fun s => !hasS s gone
mutual
def Ex.free : Ex → List ByteArray
  | .mk k s n _ ks xs bs _ => Al.freeL xs (
    if k = 7 then joinL (joinL (if k = 3 then [s] else []) (if n = 1 then woL (Bd.frees bs []) (bs.map Bd.name) else Bd.frees bs [])) (woL (Ex.frees ks []) (bs.map Bd.name))
    else if k = 6 then joinL (joinL (if k = 3 then [s] else []) (woL (Ex.frees ks []) [s])) (Bd.frees bs [])
    else joinL (joinL (if k = 3 then [s] else []) (Ex.frees ks [])) (Bd.frees bs []))
def Ex.frees : List Ex → List ByteArray → List ByteArray
  | [], O => O
  | x :: l, O => Ex.frees l (joinL O x.free)
def Bd.frees : List Bd → List ByteArray → List ByteArray
  | [], O => O
  | .mk _ e _ :: l, O => Bd.frees l (joinL O e.free)
def Al.freeL : List Al → List ByteArray → List ByteArray
  | [], O => O
  | .mk p e :: l, O => Al.freeL l (joinL O (woL e.free p.nms))
end
theorem joinL_app : ∀ (a b O : List ByteArray), joinL O (a ++ b) = joinL (joinL O a) b
  | [], b, O => by rw [joinL]; rfl
  | m :: a, b, O => by rw [List.cons_append, joinL, joinL, joinL_app a b]
theorem mem_joinL : ∀ (a O : List ByteArray) (s : ByteArray), s ∈ joinL O a ↔ s ∈ O ∨ s ∈ a
  | [], O, s => by rw [joinL]; simp
  | m :: a, O, s => by
    rw [joinL, mem_joinL a]
    split
    · rename_i h
      have h' := hasS_iff.1 h
      constructor
      · rintro (h1 | h1)
        · exact .inl h1
        · exact .inr (List.mem_cons_of_mem _ h1)
      · rintro (h1 | h1)
        · exact .inl h1
        · rcases List.mem_cons.1 h1 with rfl | h1
          · exact .inl h'
          · exact .inr h1
    · simp only [List.mem_append, List.mem_cons, List.not_mem_nil, or_false, or_assoc]
theorem woL_app (a b g : List ByteArray) : woL (a ++ b) g = woL a g ++ woL b g := List.filter_append ..
theorem mem_woL {l g : List ByteArray} {s : ByteArray} : s ∈ woL l g ↔ s ∈ l ∧ s ∉ g := by
  unfold woL
  rw [List.mem_filter]
  constructor
  · rintro ⟨h1, h2⟩
    refine ⟨h1, fun h3 => ?_⟩
    rw [hasS_iff.2 h3] at h2
    cases h2
  · rintro ⟨h1, h2⟩
    refine ⟨h1, ?_⟩
    cases h : hasS s g with
    | false => rfl
    | true => exact absurd (hasS_iff.1 h) h2
theorem woL_woL (l g h : List ByteArray) : woL (woL l g) h = woL l (h ++ g) := by
  unfold woL
  rw [List.filter_filter]
  apply List.filter_congr
  intro s _
  have : hasS s (h ++ g) = (hasS s h || hasS s g) := by unfold hasS; rw [List.any_append]
  rw [this, Bool.not_or]
theorem joinL_skip {O : List ByteArray} {m : ByteArray} (h : m ∈ O) (ms : List ByteArray) : joinL O (m :: ms) = joinL O ms := by rw [joinL, if_pos (hasS_iff.2 h)]
theorem join_wo (B : List ByteArray) : ∀ (b a O : List ByteArray), joinL O (woL (joinL a b) B) = joinL (joinL O (woL a B)) (woL b B)
  | [], a, O => by rw [joinL]; show _ = joinL _ []; rw [joinL]
  | m :: b, a, O => by
    rw [joinL, join_wo B b]
    have hcons : woL (m :: b) B = woL [m] B ++ woL b B := woL_app [m] b B
    rw [hcons, joinL_app]
    congr 1
    split
    · rename_i h
      have hm := hasS_iff.1 h
      by_cases hB : m ∈ B
      · have : woL [m] B = [] := by unfold woL; simp [hasS_iff.2 hB]
        rw [this, joinL]
      · have : woL [m] B = [m] := by
          unfold woL
          have : hasS m B = false := by
            cases h : hasS m B with
            | false => rfl
            | true => exact absurd (hasS_iff.1 h) hB
          simp [this]
        rw [this, joinL_skip ((mem_joinL _ _ _).2 (.inr (mem_woL.2 ⟨hm, hB⟩))), joinL]
    · rw [woL_app, joinL_app]
theorem join_wo0 (B b O : List ByteArray) : joinL O (woL (joinL [] b) B) = joinL O (woL b B) := by
  rw [join_wo]; rfl
theorem woL_nil (l : List ByteArray) : woL l [] = l := by unfold woL; simp [hasS]
theorem joinL_nil (O : List ByteArray) : joinL O [] = O := by rw [joinL]
mutual
theorem Ex.fr_free : ∀ (e : Ex) (B O : List ByteArray), e.fr B O = joinL O (woL e.free B)
  | .mk k s n t ks xs bs a, B, O => by
    have hk := fun B' O' => Ex.frL_free ks B' O' []
    have hb := fun B' O' => Bd.frL_free bs B' O' []
    have hw0 : ∀ B', woL ([] : List ByteArray) B' = [] := fun _ => rfl
    have ho : frO k s B O = joinL O (woL (if k = 3 then [s] else []) B) := by
      unfold frO
      by_cases h3 : k = 3
      · rw [if_pos h3]
        cases h1 : hasS s B with
        | true =>
          have : woL [s] B = [] := by unfold woL; simp [h1]
          rw [if_neg (by simp), this, joinL]
        | false =>
          have : woL [s] B = [s] := by unfold woL; simp [h1]
          rw [this, joinL, joinL]
          cases h2 : hasS s O with
          | true => simp [h3]
          | false => simp [h3]
      · rw [if_neg (fun h => h3 h.1), if_neg h3]; rw [hw0, joinL]
    have ha := fun P' => Al.frL_free xs B O P'
    rw [Ex.fr, Ex.free, ← ha]
    congr 1
    simp only [hw0, joinL_nil] at hk hb
    split
    · rw [join_wo, join_wo, woL_woL, ← ho]
      split
      · rw [woL_woL, ← hb, ← hk]
      · rw [← hb, ← hk]
    · split
      · rw [join_wo, join_wo, woL_woL, ← ho, ← hk, ← hb]
      · rw [join_wo, join_wo, ← ho, ← hk, ← hb]
theorem Ex.frL_free : ∀ (l : List Ex) (B O P : List ByteArray), Ex.frL l B (joinL O (woL P B)) = joinL O (woL (Ex.frees l P) B)
  | [], B, O, P => by rw [Ex.frL, Ex.frees]
  | x :: l, B, O, P => by
    have h1 := Ex.fr_free x B (joinL O (woL P B))
    rw [Ex.frL, Ex.frees, h1, ← join_wo, Ex.frL_free l B O]
theorem Bd.frL_free : ∀ (l : List Bd) (B O P : List ByteArray), Bd.frL l B (joinL O (woL P B)) = joinL O (woL (Bd.frees l P) B)
  | [], B, O, P => by rw [Bd.frL, Bd.frees]
  | .mk s e a :: l, B, O, P => by
    have h1 := Ex.fr_free e B (joinL O (woL P B))
    rw [Bd.frL, Bd.frees, h1, ← join_wo, Bd.frL_free l B O]
theorem Al.frL_free : ∀ (l : List Al) (B O P : List ByteArray), Al.frL l B (joinL O (woL P B)) = joinL O (woL (Al.freeL l P) B)
  | [], B, O, P => by rw [Al.frL, Al.freeL]
  | .mk p e :: l, B, O, P => by
    have h1 := Ex.fr_free e (B ++ p.nms) (joinL O (woL P B))
    rw [Al.frL, Al.freeL, h1, ← woL_woL, ← join_wo, Al.frL_free l B O]
end

def srow (l : List ByteArray) : List (List PV) := l.map fun s => [sv s]
theorem strs_srow (l : List ByteArray) : strs l = .rows (srow l) := rfl
theorem sv_ns (x : ByteArray) : NS (sv x) := .lit _
@[simp] theorem ns_srow (l : List ByteArray) : NS (.rows (srow l)) := r1_ns sv_ns l
theorem sl_s : SlT PG 55 1 16 := SlT.of (by kernel_rfl)
theorem srow_one (s : ByteArray) : [[PV.lit (.string s)]] = srow [s] := rfl
theorem srow_nil : ([] : List (List PV)) = srow [] := rfl
section
variable {k : PV → Res} {kv : Res}
theorem app_s {l : List ByteArray} {x : ByteArray} (h : l.length ≤ 1000000000) : appK PG .fail 55 (.pv (.rows (srow l))) (.pv (.rows [[.lit (.string x)]])) k = k (.rows (srow (l ++ [x]))) := appK_r1 sl_s sv_ns (by decide) h
theorem app_ss {a b : List ByteArray} (hb : b ≠ []) (hl : a.length + b.length ≤ 1000000000) : appK PG .fail 55 (.pv (.rows (srow a))) (.pv (strs b)) k = k (.rows (srow (a ++ b))) := by
  refine appK_of (fun w => ?_) (ns_srow _)
  have hbb : (a.length + b.length) * 16 ≤ 140737488355328 := by omega
  rw [strs, srow, app_ok sl_s (es := a.map fun x => [sv x]) (es' := b.map fun x => [sv x]) rfl rfl (by simpa using hb) (by simp) (by simp <;> omega) (by simpa using hbb)]
  rw [srow, List.map_append]
theorem app_ns {b : List ByteArray} (hb : b ≠ []) (hl : b.length ≤ 1000000000) : appK PG .fail 55 (.pv (.lit (.slice none 0 0))) (.pv (strs b)) k = k (.rows (srow b)) := by
  refine appK_of (fun w => ?_) (ns_srow _)
  rw [strs, app_ok sl_s (es := []) (es' := b.map fun x => [sv x]) rfl rfl (by simpa using hb) (by simp) (by simp <;> omega) (by simp <;> omega)]
  exact Iff.rfl
theorem app_no {x : AV} : appK PG .fail 55 x (.pv (strs [])) k = .fail := by
  unfold appK theK
  rw [dif_neg]
  rintro ⟨w, ⟨e, sz, by_, zc, es, es', _, _, _, _, _, _, _, h2, h3, _⟩, _⟩
  cases h2
  exact h3 rfl
theorem p0_s {a : List ByteArray} : app0K PG .fail 55 (.pv (.rows (srow a))) (.pv (strs [])) kv = kv := app0K_of (app0_ok sl_s (es := srow a) rfl rfl)
theorem p0_n : app0K PG .fail 55 (.pv (.lit (.slice none 0 0))) (.pv (strs [])) kv = kv := app0K_of (app0_ok sl_s (es := []) rfl rfl)
theorem p0_no' {x : AV} {l : List ByteArray} (h : l ≠ []) : app0K PG .fail 55 x (.pv (strs l)) kv = .fail := by
  unfold app0K
  rw [if_neg]
  rintro ⟨es, e, sz, _, _, _, h2⟩
  have : rowsN (.pv (strs l)) = some (l.map fun s => [sv s]) := rfl
  simp_all
end
theorem drop_cons {α : Type} {l m : List α} {x : α} {j : Nat} (h : l.drop j = x :: m) : l[j]? = some x ∧ (j : Int) < l.length ∧ l.drop (j + 1) = m := by
  have hk : l[j]? = some x := by have := congrArg List.head? h; rwa [List.head?_drop] at this
  exact ⟨hk, by have := (List.getElem?_eq_some_iff.1 hk).1; omega, by rw [← List.drop_drop, h]; rfl⟩
theorem drop_nil {α : Type} {l : List α} {j : Nat} (h : l.drop j = []) : ¬ (j : Int) < l.length := by have := congrArg List.length h; simp at this; omega
/-! Has. -/
theorem has_l (l : List ByteArray) (s : ByteArray) (hl : l.length ≤ 1000000000) : ∀ (m : List ByteArray) (j : Nat), l.drop j = m →
    ev (q39b0a (iv (j : Int)) (strs l) (sv s)) = some (if hasS s m = true then (0, [bv true]) else (1, []))
  | [], j, hd => by
    have hj := drop_nil hd
    refine Evl.of ?_
    rw [h39b0a, g39b0a]
    simp [hj, hasS]
  | x :: m, j, hd => by
    obtain ⟨hk, hj, hd'⟩ := drop_cons hd
    have ih := has_l l s hl m (j + 1) hd'
    have e0 := wr (n := j) (by omega)
    rw [c1] at ih e0
    refine Evl.of ?_
    rw [h39b0a, g39b0a]
    have hc : hasS s (x :: m) = (eqS s x || hasS s m) := by simp [hasS]
    rw [hc]
    by_cases h : x = s
    · subst h
      have h1 : eqS x x = true := eqS_true.2 rfl
      simp [hj, idxK_strs hk, h1]
    · have h1 : eqS s x = false := by
        cases h2 : eqS s x with
        | false => rfl
        | true => exact absurd (eqS_true.1 h2).symm h
      simp [hj, idxK_strs hk, h, h1, e0, ih]
theorem has_ev (l : List ByteArray) (s : ByteArray) (hl : l.length ≤ 1000000000) : ev (q39 (strs l) (sv s)) = some (0, [bv (hasS s l)]) := by
  have h1 := has_l l s hl l 0 rfl
  simp only [Int.natCast_zero, Int.ofNat_zero] at h1
  refine Evl.of ?_
  rw [h39, g39]
  cases h : hasS s l with
  | true => rw [if_pos h] at h1; simp [h1]
  | false => rw [if_neg (by rw [h]; simp)] at h1; simp [h1]
theorem has_srow (l : List ByteArray) (s : ByteArray) (hl : l.length ≤ 1000000000) : ev (q39 (.rows (srow l)) (sv s)) = some (0, [bv (hasS s l)]) := has_ev l s hl
theorem has_nil (s : ByteArray) : ev (q39 (.rows []) (sv s)) = some (0, [bv false]) := has_ev [] s (by simp)
/-! Without. -/
theorem wo_cons (x : ByteArray) (m g : List ByteArray) : woL (x :: m) g = if hasS x g = true then woL m g else x :: woL m g := by
  unfold woL
  rw [List.filter_cons]
  cases hasS x g <;> simp
theorem wo_b (l g : List ByteArray) (hl : l.length ≤ 1000000) (hg : g.length ≤ 1000000000) : ∀ (m : List ByteArray) (j : Nat) (acc : List ByteArray), l.drop j = m → acc.length ≤ j →
    ev (q32b0b (iv (j : Int)) (strs l) (strs g) (srow acc)) = some (1, [.rows (srow (acc ++ woL m g))])
  | [], j, acc, hd, ha => by
    have hj := drop_nil hd
    refine Evl.of ?_
    rw [h32b0b, g32b0b]
    simp [hj, woL]
  | x :: m, j, acc, hd, ha => by
    obtain ⟨hk, hj, hd'⟩ := drop_cons hd
    have ih := fun acc' ha' => wo_b l g hl hg m (j + 1) acc' hd' ha'
    have e0 := wr (n := j) (by omega)
    rw [c1] at ih e0
    refine Evl.of ?_
    rw [h32b0b, g32b0b, wo_cons]
    cases h : hasS x g with
    | true =>
      have ih1 := ih acc (by omega)
      simp [hj, idxK_strs hk, has_ev g x hg, h, e0, ih1]
    | false =>
      have ih1 := ih (acc ++ [x]) (by simp <;> omega)
      simp [hj, idxK_strs hk, has_ev g x hg, h, app_s (l := acc) (x := x) (by omega), e0, ih1]
theorem wo_a (l g : List ByteArray) (hl : l.length ≤ 1000000) (hg : g.length ≤ 1000000000) : ∀ (m : List ByteArray) (j : Nat), l.drop j = m →
    ev (q32b0a (iv (j : Int)) (strs l) (strs g)) = some (if woL m g = [] then (0, [nS]) else (1, [.rows (srow (woL m g))]))
  | [], j, hd => by
    have hj := drop_nil hd
    refine Evl.of ?_
    rw [h32b0a, g32b0a]
    simp [hj, woL]
  | x :: m, j, hd => by
    obtain ⟨hk, hj, hd'⟩ := drop_cons hd
    have e0 := wr (n := j) (by omega)
    rw [c1] at e0
    refine Evl.of ?_
    rw [h32b0a, g32b0a, wo_cons]
    cases h : hasS x g with
    | true =>
      have ih := wo_a l g hl hg m (j + 1) hd'
      rw [c1] at ih
      simp [hj, idxK_strs hk, has_ev g x hg, h, e0, ih]
    | false =>
      have ih1 := wo_b l g hl hg m (j + 1) [x] hd' (by simp)
      rw [c1] at ih1
      simp [hj, idxK_strs hk, has_ev g x hg, h, e0, srow_one, ih1]
theorem wo_ev (l g : List ByteArray) (hl : l.length ≤ 1000000) (hg : g.length ≤ 1000000000) : ev (q32w (strs l) (strs g)) = some (0, [strs (woL l g)]) := by
  have h1 := wo_a l g hl hg l 0 rfl
  simp only [Int.natCast_zero, Int.ofNat_zero] at h1
  by_cases h : woL l g = []
  · rw [if_pos h] at h1
    have h2 : ev (q32 (strs l) (strs g)) = some (0, [nS]) := Evl.of (by rw [h32, g32]; simp [h1])
    refine Evl.of ?_
    rw [h32w]
    simp [h2, h]; rfl
  · rw [if_neg h] at h1
    have h2 : ev (q32 (strs l) (strs g)) = some (1, [.rows (srow (woL l g))]) := Evl.of (by rw [h32, g32]; simp [h1])
    refine Evl.of ?_
    rw [h32w]
    simp [h2]; rfl
/-! Join. -/
theorem joinL_len : ∀ (m O : List ByteArray), O.length ≤ (joinL O m).length ∧ (joinL O m).length ≤ O.length + m.length
  | [], O => by rw [joinL]; simp
  | x :: m, O => by
    rw [joinL, List.length_cons]
    split
    · have := joinL_len m O; omega
    · have := joinL_len m (O ++ [x]); simp at this; omega
theorem jo_c (b : List ByteArray) (hb : b.length ≤ 1000000) (n : Nat) (hn : n ≤ 1000000) : ∀ (m : List ByteArray) (j : Nat) (acc : List ByteArray), b.drop j = m → acc.length ≤ n + j →
    ev (q33b0c (iv (j : Int)) (strs b) (srow acc)) = some (1, [.rows (srow (joinL acc m))])
  | [], j, acc, hd, ha => by
    have hj := drop_nil hd
    refine Evl.of ?_
    rw [h33b0c, g33b0c]
    simp [hj, joinL]
  | x :: m, j, acc, hd, ha => by
    obtain ⟨hk, hj, hd'⟩ := drop_cons hd
    have ih := fun acc' ha' => jo_c b hb n hn m (j + 1) acc' hd' ha'
    have e0 := wr (n := j) (by omega)
    rw [c1] at ih e0
    refine Evl.of ?_
    rw [h33b0c, g33b0c, joinL]
    cases h : hasS x acc with
    | true =>
      have ih1 := ih acc (by omega)
      simp [hj, idxK_strs hk, has_srow acc x (by omega), h, e0, ih1]
    | false =>
      have ih1 := ih (acc ++ [x]) (by simp <;> omega)
      simp [hj, idxK_strs hk, has_srow acc x (by omega), h, app_s (l := acc) (x := x) (by omega), e0, ih1]
theorem jo_d (b : List ByteArray) (hb : b.length ≤ 1000000) (n : Nat) (hn : n ≤ 1000000) : ∀ (m : List ByteArray) (j : Nat) (acc : List ByteArray), b.drop j = m → acc.length ≤ n + j →
    ev (q33b0d (iv (j : Int)) (strs b) (srow acc)) = some (1, [.rows (srow (joinL acc m))])
  | [], j, acc, hd, ha => by
    have hj := drop_nil hd
    refine Evl.of ?_
    rw [h33b0d, g33b0d]
    simp [hj, joinL]
  | x :: m, j, acc, hd, ha => by
    obtain ⟨hk, hj, hd'⟩ := drop_cons hd
    have ih := fun acc' ha' => jo_d b hb n hn m (j + 1) acc' hd' ha'
    have e0 := wr (n := j) (by omega)
    rw [c1] at ih e0
    refine Evl.of ?_
    rw [h33b0d, g33b0d, joinL]
    cases h : hasS x acc with
    | true =>
      have ih1 := ih acc (by omega)
      simp [hj, idxK_strs hk, has_srow acc x (by omega), h, e0, ih1]
    | false =>
      have ih1 := ih (acc ++ [x]) (by simp <;> omega)
      simp [hj, idxK_strs hk, has_srow acc x (by omega), h, app_s (l := acc) (x := x) (by omega), e0, ih1]
theorem joinL_ne (O m : List ByteArray) (x : ByteArray) : joinL (O ++ [x]) m ≠ O := fun e => by
  have := (joinL_len m (O ++ [x])).1
  rw [e] at this
  simp at this
  omega
theorem jo_a (b : List ByteArray) (hb : b.length ≤ 1000000) (c : List ByteArray) (hc : c.length ≤ 1000000) : ∀ (m : List ByteArray) (j : Nat), b.drop j = m →
    ev (q33b0a (iv (j : Int)) (strs b) (srow c)) = some (if joinL c m = c then (0, [.rows (srow c)]) else (1, [.rows (srow (joinL c m))]))
  | [], j, hd => by
    have hj := drop_nil hd
    refine Evl.of ?_
    rw [h33b0a, g33b0a]
    simp [hj, joinL]
  | x :: m, j, hd => by
    obtain ⟨hk, hj, hd'⟩ := drop_cons hd
    have e0 := wr (n := j) (by omega)
    rw [c1] at e0
    refine Evl.of ?_
    rw [h33b0a, g33b0a, joinL]
    cases h : hasS x c with
    | true =>
      have ih := jo_a b hb c hc m (j + 1) hd'
      rw [c1] at ih
      simp [hj, idxK_strs hk, has_srow c x (by omega), h, e0, ih]
    | false =>
      have ih1 := jo_c b hb c.length hc m (j + 1) (c ++ [x]) hd' (by simp <;> omega)
      have hne := joinL_ne c m x
      rw [c1] at ih1
      simp [hj, idxK_strs hk, has_srow c x (by omega), h, app_s (l := c) (x := x) (by omega), e0, ih1, hne]
theorem jo_b (b : List ByteArray) (hb : b.length ≤ 1000000) (j : Nat) (hj0 : j = 0) : ev (q33b0b (iv (j : Int)) (strs b)) = some (if b = [] then (0, [nS]) else (1, [.rows (srow (joinL [] b))])) := by
  cases b with
  | nil =>
    subst hj0
    refine Evl.of ?_
    rw [h33b0b, g33b0b]
    simp
  | cons x m =>
    have ih1 := jo_d (x :: m) hb 0 (by omega) m (j + 1) [x] (by subst hj0; rfl) (by simp)
    have hk : (x :: m)[j]? = some x := by subst hj0; rfl
    have hj : (j : Int) < ((x :: m).length : Int) := by subst hj0; simp <;> omega
    have e0 := wr (n := j) (by omega)
    rw [c1] at ih1 e0
    have hjl : joinL [] (x :: m) = joinL [x] m := by rw [joinL]; rfl
    refine Evl.of ?_
    rw [h33b0b, g33b0b, hjl]
    simp [-List.length_cons, hj, idxK_strs hk, has_nil, srow_one, e0, ih1]
theorem joinL_ne0 {b : List ByteArray} (h : b ≠ []) : joinL [] b ≠ [] := by
  cases b with
  | nil => exact absurd rfl h
  | cons x m =>
    have hjl : joinL [] (x :: m) = joinL [x] m := by rw [joinL]; rfl
    rw [hjl]
    exact joinL_ne [] m x
theorem join_raw (a b : List ByteArray) (ha : a.length ≤ 1000000) (hb : b.length ≤ 1000000) : ev (q33 (strs a) (strs b)) = some (if joinL a b = [] then (1, [nS]) else (0, [.rows (srow (joinL a b))])) := by
  by_cases ha0 : a = []
  · subst ha0
    have h1 := jo_b b hb 0 rfl
    simp only [Int.natCast_zero, Int.ofNat_zero] at h1
    refine Evl.of ?_
    rw [h33, g33]
    by_cases hb0 : b = []
    · subst hb0
      rw [if_pos rfl] at h1
      simp [app_no, p0_n, h1, joinL]
    · rw [if_neg hb0] at h1
      have := joinL_ne0 hb0
      simp [app_no, p0_n, h1, this]
  · have h1 := jo_a b hb a ha b 0 rfl
    simp only [Int.natCast_zero, Int.ofNat_zero] at h1
    have hne : joinL a b ≠ [] := fun e => by
      have := (joinL_len b a).1
      rw [e] at this
      exact ha0 (List.eq_nil_of_length_eq_zero (by simpa using this))
    refine Evl.of ?_
    rw [h33, g33, if_neg hne]
    by_cases hc : joinL a b = a
    · rw [if_pos hc] at h1
      simp [app_ns ha0 (show a.length ≤ 1000000000 by omega), p0_no' ha0, h1, hc]
    · rw [if_neg hc] at h1
      simp [app_ns ha0 (show a.length ≤ 1000000000 by omega), p0_no' ha0, h1]
theorem join_ev (a b : List ByteArray) (ha : a.length ≤ 1000000) (hb : b.length ≤ 1000000) : ev (q33w (strs a) (strs b)) = some (0, [strs (joinL a b)]) := by
  have h1 := join_raw a b ha hb
  refine Evl.of ?_
  rw [h33w]
  by_cases h : joinL a b = []
  · rw [if_pos h] at h1
    simp [h1, h]; rfl
  · rw [if_neg h] at h1
    simp [h1]; rfl
/-! Names of a pattern. -/
theorem nm_c (p : Pt) (hp : Pt.totL p.kids ≤ 1000000) (IH : ∀ x ∈ p.kids, ev (q34w (iv x.kind) (sv x.name) (iv x.n) (pts x.kids) (iv x.at_)) = some (0, [strs x.nms])) : ∀ (m : List Pt) (j : Nat) (acc : List ByteArray), p.kids.drop j = m → acc.length + Pt.totL m ≤ 1000001 + Pt.totL p.kids →
    ev (q34b0c (iv (j : Int)) (srow acc) (iv p.kind) (sv p.name) (iv p.n) (pts p.kids) (iv p.at_)) = some (1, [iv p.kind, sv p.name, iv p.n, pts p.kids, iv p.at_, .rows (srow (acc ++ Pt.nmsL m))]) ∧
    ev (q34b0d (iv (j : Int)) (srow acc) (iv p.kind) (sv p.name) (iv p.n) (pts p.kids) (iv p.at_)) = some (1, [iv p.kind, sv p.name, iv p.n, pts p.kids, iv p.at_, .rows (srow (acc ++ Pt.nmsL m))])
  | [], j, acc, hd, ha => by
    have hj := drop_nil hd
    refine ⟨Evl.of ?_, Evl.of ?_⟩
    · rw [h34b0c, g34b0c]
      simp [hj, Pt.nmsL]
    · rw [h34b0d, g34b0d]
      simp [hj, Pt.nmsL]
  | x :: m, j, acc, hd, ha => by
    obtain ⟨hk, hj, hd'⟩ := drop_cons hd
    have hxm := List.mem_of_getElem? hk
    have hl := Pt.totL_len p.kids
    rw [Pt.totL] at ha
    have hx := Pt.nms_le x
    have ih := fun acc' ha' => nm_c p hp IH m (j + 1) acc' hd' ha'
    have e0 := wr (n := j) (by omega)
    rw [c1] at ih e0
    rw [Pt.nmsL]
    by_cases h0 : x.nms = []
    · obtain ⟨i1, i2⟩ := ih acc (by omega)
      have hx0 := IH x hxm
      rw [h0] at hx0
      refine ⟨Evl.of ?_, Evl.of ?_⟩
      · rw [h34b0c, g34b0c]
        simp [hj, idxK_pts hk, hx0, app_no, p0_s, h0, e0, i1]
      · rw [h34b0d, g34b0d]
        simp [hj, idxK_pts hk, hx0, app_no, p0_s, h0, e0, i2]
    · obtain ⟨i1, i2⟩ := ih (acc ++ x.nms) (by rw [List.length_append]; omega)
      refine ⟨Evl.of ?_, Evl.of ?_⟩
      · rw [h34b0c, g34b0c]
        simp [hj, idxK_pts hk, IH x hxm, app_ss (a := acc) h0 (show acc.length + x.nms.length ≤ 1000000000 by omega), p0_no' h0, e0, i1]
      · rw [h34b0d, g34b0d]
        simp [hj, idxK_pts hk, IH x hxm, app_ss (a := acc) h0 (show acc.length + x.nms.length ≤ 1000000000 by omega), p0_no' h0, e0, i2]
theorem nm_a (p : Pt) (hp : Pt.totL p.kids ≤ 1000000) (IH : ∀ x ∈ p.kids, ev (q34w (iv x.kind) (sv x.name) (iv x.n) (pts x.kids) (iv x.at_)) = some (0, [strs x.nms])) (acc : List ByteArray) (ha : acc.length ≤ 1) : ∀ (m : List Pt) (j : Nat), p.kids.drop j = m → Pt.totL m ≤ Pt.totL p.kids →
    ev (q34b0a (iv (j : Int)) (srow acc) (iv p.kind) (sv p.name) (iv p.n) (pts p.kids) (iv p.at_)) = some (if Pt.nmsL m = [] then (0, [iv p.kind, sv p.name, iv p.n, pts p.kids, iv p.at_, .rows (srow acc)]) else (1, [iv p.kind, sv p.name, iv p.n, pts p.kids, iv p.at_, .rows (srow (acc ++ Pt.nmsL m))])) ∧
    ev (q34b0b (iv (j : Int)) (iv p.kind) (sv p.name) (iv p.n) (pts p.kids) (iv p.at_)) = some (if Pt.nmsL m = [] then (0, [iv p.kind, sv p.name, iv p.n, pts p.kids, iv p.at_, nS]) else (1, [iv p.kind, sv p.name, iv p.n, pts p.kids, iv p.at_, .rows (srow (Pt.nmsL m))]))
  | [], j, hd, hm => by
    have hj := drop_nil hd
    refine ⟨Evl.of ?_, Evl.of ?_⟩
    · rw [h34b0a, g34b0a]
      simp [hj, Pt.nmsL]
    · rw [h34b0b, g34b0b]
      simp [hj, Pt.nmsL]
  | x :: m, j, hd, hm => by
    obtain ⟨hk, hj, hd'⟩ := drop_cons hd
    have hxm := List.mem_of_getElem? hk
    have hl := Pt.totL_len p.kids
    rw [Pt.totL] at hm
    have hx := Pt.nms_le x
    have e0 := wr (n := j) (by omega)
    rw [c1] at e0
    rw [Pt.nmsL]
    by_cases h0 : x.nms = []
    · obtain ⟨i1, i2⟩ := nm_a p hp IH acc ha m (j + 1) hd' (by omega)
      rw [c1] at i1 i2
      have hx0 := IH x hxm
      rw [h0] at hx0
      refine ⟨Evl.of ?_, Evl.of ?_⟩
      · rw [h34b0a, g34b0a]
        simp [hj, idxK_pts hk, hx0, app_no, p0_s, h0, e0, i1]
      · rw [h34b0b, g34b0b]
        simp [hj, idxK_pts hk, hx0, app_no, p0_n, h0, e0, i2]
    · have i1 := (nm_c p hp IH m (j + 1) (acc ++ x.nms) hd' (by rw [List.length_append]; omega)).1
      have i2 := (nm_c p hp IH m (j + 1) x.nms hd' (by omega)).2
      rw [c1] at i1 i2
      have hne : ¬ (x.nms ++ Pt.nmsL m = []) := by simp [h0]
      refine ⟨Evl.of ?_, Evl.of ?_⟩
      · rw [h34b0a, g34b0a, if_neg hne]
        simp [hj, idxK_pts hk, IH x hxm, app_ss (a := acc) h0 (show acc.length + x.nms.length ≤ 1000000000 by omega), p0_no' h0, e0, i1]
      · rw [h34b0b, g34b0b, if_neg hne]
        simp [hj, idxK_pts hk, IH x hxm, app_ns h0 (show x.nms.length ≤ 1000000000 by omega), p0_no' h0, e0, i2]
theorem nms_ev : ∀ (n : Nat) (p : Pt), p.tot ≤ n → n ≤ 1000000 → ev (q34w (iv p.kind) (sv p.name) (iv p.n) (pts p.kids) (iv p.at_)) = some (0, [strs p.nms])
  | 0, p, h, _ => by have := p.tot_pos; omega
  | n + 1, p, h, hn => by
    have hte := p.tot_eq
    have IH : ∀ x ∈ p.kids, ev (q34w (iv x.kind) (sv x.name) (iv x.n) (pts x.kids) (iv x.at_)) = some (0, [strs x.nms]) := fun x hx => nms_ev n x (by have := Pt.totL_mem hx; omega) (by omega)
    by_cases hk : p.kind = 2
    · have h1 := (nm_a p (by omega) IH [p.name] (by simp) p.kids 0 rfl (Nat.le_refl _)).1
      simp only [Int.natCast_zero, Int.ofNat_zero] at h1
      rw [Pt.nms_eq, if_pos hk]
      by_cases h0 : Pt.nmsL p.kids = []
      · rw [if_pos h0] at h1
        have h2 : ev (q34 (iv p.kind) (sv p.name) (iv p.n) (pts p.kids) (iv p.at_)) = some (0, [.rows (srow [p.name])]) := Evl.of (by
          rw [h34, g34]
          simp only [hk] at h1 ⊢
          simp [srow_one, h1])
        refine Evl.of ?_
        rw [h34w]
        simp [h2, h0]; rfl
      · rw [if_neg h0] at h1
        have h2 : ev (q34 (iv p.kind) (sv p.name) (iv p.n) (pts p.kids) (iv p.at_)) = some (0, [.rows (srow ([p.name] ++ Pt.nmsL p.kids))]) := Evl.of (by
          rw [h34, g34]
          simp only [hk] at h1 ⊢
          simp [srow_one, h1])
        refine Evl.of ?_
        rw [h34w]
        simp [h2]; rfl
    · have h1 := (nm_a p (by omega) IH [] (by simp) p.kids 0 rfl (Nat.le_refl _)).2
      simp only [Int.natCast_zero, Int.ofNat_zero] at h1
      rw [Pt.nms_eq, if_neg hk, List.nil_append]
      by_cases h0 : Pt.nmsL p.kids = []
      · rw [if_pos h0] at h1
        have h2 : ev (q34 (iv p.kind) (sv p.name) (iv p.n) (pts p.kids) (iv p.at_)) = some (1, [nS]) := Evl.of (by
          rw [h34, g34]
          simp [hk, h1])
        refine Evl.of ?_
        rw [h34w]
        simp [h2, h0]; rfl
      · rw [if_neg h0] at h1
        have h2 : ev (q34 (iv p.kind) (sv p.name) (iv p.n) (pts p.kids) (iv p.at_)) = some (0, [.rows (srow (Pt.nmsL p.kids))]) := Evl.of (by
          rw [h34, g34]
          simp [hk, h1])
        refine Evl.of ?_
        rw [h34w]
        simp [h2]; rfl
/-! Names of binds. -/
theorem bo_b (l : List Bd) (hl : l.length ≤ 1000000) : ∀ (m : List Bd) (j : Nat) (acc : List ByteArray), l.drop j = m → acc.length ≤ j →
    ev (q30b0b (iv (j : Int)) (bds l) (srow acc)) = some (1, [.rows (srow (acc ++ m.map Bd.name))])
  | [], j, acc, hd, ha => by
    have hj := drop_nil hd
    refine Evl.of ?_
    rw [h30b0b, g30b0b]
    simp [hj]
  | x :: m, j, acc, hd, ha => by
    obtain ⟨hk, hj, hd'⟩ := drop_cons hd
    have ih1 := bo_b l hl m (j + 1) (acc ++ [x.name]) hd' (by simp <;> omega)
    have e0 := wr (n := j) (by omega)
    rw [c1] at ih1 e0
    refine Evl.of ?_
    rw [h30b0b, g30b0b]
    simp [hj, idxK_bds hk, app_s (l := acc) (x := x.name) (by omega), e0, ih1]
theorem bound_ev (l : List Bd) (hl : l.length ≤ 1000000) : ev (q30w (bds l)) = some (0, [strs (l.map Bd.name)]) := by
  have key : ∀ j : Nat, j = 0 → ev (q30b0a (iv (j : Int)) (bds l)) = some (if l = [] then (0, [nS]) else (1, [.rows (srow (l.map Bd.name))])) := fun j hj0 => by
    cases l with
    | nil =>
      subst hj0
      refine Evl.of ?_
      rw [h30b0a, g30b0a]
      simp
    | cons x m =>
      have ih1 := bo_b (x :: m) hl m (j + 1) [x.name] (by subst hj0; rfl) (by simp)
      have hk : (x :: m)[j]? = some x := by subst hj0; rfl
      have hj : (j : Int) < ((x :: m).length : Int) := by subst hj0; simp <;> omega
      have e0 := wr (n := j) (by omega)
      rw [c1] at ih1 e0
      refine Evl.of ?_
      rw [h30b0a, g30b0a]
      simp [-List.length_cons, hj, idxK_bds hk, srow_one, e0, ih1]
  have h1 := key 0 rfl
  simp only [Int.natCast_zero, Int.ofNat_zero] at h1
  by_cases h : l = []
  · subst h
    rw [if_pos rfl] at h1
    have h2 : ev (q30 (bds [])) = some (0, [nS]) := Evl.of (by rw [h30, g30]; simp [h1])
    refine Evl.of ?_
    rw [h30w]
    simp [h2]; rfl
  · rw [if_neg h] at h1
    have h2 : ev (q30 (bds l)) = some (1, [.rows (srow (l.map Bd.name))]) := Evl.of (by rw [h30, g30]; simp [h1])
    refine Evl.of ?_
    rw [h30w]
    simp [h2]; rfl
theorem joinL_nodup : ∀ (a O : List ByteArray), O.Nodup → (joinL O a).Nodup
  | [], O, h => by rw [joinL]; exact h
  | m :: a, O, h => by
    rw [joinL]
    refine joinL_nodup a _ ?_
    split
    · exact h
    · rename_i hm
      refine List.nodup_append.2 ⟨h, by simp, fun x hx y hy e => ?_⟩
      rw [List.mem_singleton.1 hy] at e
      subst e
      exact hm (hasS_iff.2 hx)
theorem joinL_new : ∀ (a O : List ByteArray), (O ++ a).Nodup → joinL O a = O ++ a
  | [], O, h => by rw [joinL, List.append_nil]
  | m :: a, O, h => by
    have hm : ¬ hasS m O = true := fun e => (List.nodup_append.1 h).2.2 m (hasS_iff.1 e) m (List.mem_cons_self ..) rfl
    rw [joinL, if_neg hm, joinL_new a (O ++ [m]) (by simpa using h)]
    simp
theorem joinL_self {a : List ByteArray} (h : a.Nodup) : joinL [] a = a := joinL_new a [] (by simpa using h)
theorem Al.freeL_nodup : ∀ (l : List Al) (O : List ByteArray), O.Nodup → (Al.freeL l O).Nodup
  | [], O, h => by rw [Al.freeL]; exact h
  | .mk p e :: l, O, h => by rw [Al.freeL]; exact Al.freeL_nodup l _ (joinL_nodup _ _ h)
theorem Ex.free_nodup (e : Ex) : e.free.Nodup := by
  cases e with
  | mk k s n t ks xs bs a =>
    rw [Ex.free]
    refine Al.freeL_nodup xs _ ?_
    have h0 : (if k = 3 then [s] else []).Nodup := by split <;> simp
    split
    · exact joinL_nodup _ _ (joinL_nodup _ _ h0)
    · split
      · exact joinL_nodup _ _ (joinL_nodup _ _ h0)
      · exact joinL_nodup _ _ (joinL_nodup _ _ h0)
/-- tree.Free is the reference's Free. -/
theorem Ex.fr_all (e : Ex) : e.fr [] [] = e.free := by
  rw [Ex.fr_free, woL_nil, joinL_self e.free_nodup]

theorem Ex.free_eq (e : Ex) : e.free = Al.freeL e.alts (
    if e.kind = 7 then joinL (joinL (if e.kind = 3 then [e.name] else []) (if e.n = 1 then woL (Bd.frees e.binds []) (e.binds.map Bd.name) else Bd.frees e.binds [])) (woL (Ex.frees e.kids []) (e.binds.map Bd.name))
    else if e.kind = 6 then joinL (joinL (if e.kind = 3 then [e.name] else []) (woL (Ex.frees e.kids []) [e.name])) (Bd.frees e.binds [])
    else joinL (joinL (if e.kind = 3 then [e.name] else []) (Ex.frees e.kids [])) (Bd.frees e.binds [])) := by cases e; rw [Ex.free]; rfl
theorem frees_binds : ∀ (l : List Bd) (O : List ByteArray), Bd.frees l O = Ex.frees (l.map Bd.e) O
  | [], O => by rw [Bd.frees, List.map_nil, Ex.frees]
  | .mk s e a :: l, O => by rw [Bd.frees, List.map_cons, Ex.frees, frees_binds l]; rfl
theorem Ex.free_len (e : Ex) : e.free.length ≤ e.tot := by
  rw [← Ex.fr_all]
  have := Ex.fr_le e [] []
  simpa using this
theorem Ex.totL_mem : ∀ {l : List Ex} {x : Ex}, x ∈ l → x.tot ≤ Ex.totL l
  | y :: l, x, h => by
    rw [Ex.totL]
    rcases List.mem_cons.1 h with rfl | h
    · omega
    · have := Ex.totL_mem h
      omega
theorem frees_len : ∀ (l : List Ex) (O : List ByteArray), (Ex.frees l O).length ≤ O.length + Ex.totL l ∧ O.length ≤ (Ex.frees l O).length
  | [], O => by rw [Ex.frees, Ex.totL]; omega
  | x :: l, O => by
    rw [Ex.frees, Ex.totL]
    have h1 := frees_len l (joinL O x.free)
    have h2 := joinL_len x.free O
    have h3 := x.free_len
    omega
theorem totL_binds : ∀ l : List Bd, Ex.totL (l.map Bd.e) + l.length = Bd.totL l
  | [] => by rw [List.map_nil, Ex.totL, Bd.totL]; rfl
  | .mk s e a :: l => by
    have := totL_binds l
    rw [List.map_cons, Ex.totL, Bd.totL, Bd.tot, List.length_cons]
    show e.tot + _ + _ = _
    omega
theorem woL_len (l g : List ByteArray) : (woL l g).length ≤ l.length := List.length_filter_le ..
abbrev qF (e : Ex) : Q := q21 (iv e.kind) (sv e.name) (iv e.n) (iv e.t.kind) (sv e.t.name) (iv e.t.n) (tys e.t.kids) (exs e.kids) (als e.alts) (bds e.binds) (iv e.at_)
def FreeE (n : Nat) : Prop := ∀ e : Ex, e.tot ≤ n → ev (qF e) = some (0, [strs e.free])
/-! Of several expressions. -/
theorem fs_b (n : Nat) (IH : FreeE n) (l : List Ex) (hn : ∀ x ∈ l, x.tot ≤ n) (hl : Ex.totL l ≤ 1000000) : ∀ (m : List Ex) (j : Nat) (acc : List ByteArray), l.drop j = m → acc.length + Ex.totL m ≤ 1000000 → j + m.length ≤ 1000000 →
    (acc ≠ [] → ev (q31b0b (iv (j : Int)) (exs l) (srow acc)) = some (1, [.rows (srow (Ex.frees m acc))])) ∧ (acc = [] → ev (q31b0a (iv (j : Int)) (exs l)) = some (if Ex.frees m [] = [] then (0, [nS]) else (1, [.rows (srow (Ex.frees m []))])))
  | [], j, acc, hd, ha, hjm => by
    have hj := drop_nil hd
    refine ⟨fun _ => Evl.of ?_, fun _ => Evl.of ?_⟩
    · rw [h31b0b, g31b0b]
      simp [hj, Ex.frees]
    · rw [h31b0a, g31b0a]
      simp [hj, Ex.frees]
  | x :: m, j, acc, hd, ha, hjm => by
    obtain ⟨hk, hj, hd'⟩ := drop_cons hd
    have hxm := List.mem_of_getElem? hk
    rw [Ex.totL] at ha
    rw [List.length_cons] at hjm
    have hf := x.free_len
    have h21 := IH x (hn x hxm)
    have e0 := wr (n := j) (by omega)
    rw [c1] at e0
    rw [Ex.frees, Ex.frees]
    refine ⟨fun hne => Evl.of ?_, fun he => Evl.of ?_⟩
    · have hjl := joinL_len x.free acc
      have hne2 : joinL acc x.free ≠ [] := fun e => by
        rw [e] at hjl
        exact hne (List.eq_nil_of_length_eq_zero (by simpa using hjl.1))
      have ih := (fs_b n IH l hn hl m (j + 1) (joinL acc x.free) hd' (by omega) (by omega)).1 hne2
      have hjr := join_raw acc x.free (by omega) (by omega)
      rw [if_neg hne2, strs_srow acc] at hjr
      rw [c1] at ih
      rw [h31b0b, g31b0b]
      simp [hj, idxK_exs hk, h21, hjr, e0, ih]
    · subst he
      have hjl := joinL_len x.free []
      simp only [List.length_nil, Nat.zero_add] at hjl ha
      have hjr := join_raw [] x.free (by simp) (by omega)
      rw [show strs [] = .rows [] from rfl] at hjr
      rw [h31b0a, g31b0a]
      by_cases hne : joinL [] x.free = []
      · have ih := (fs_b n IH l hn hl m (j + 1) [] hd' (by simp; omega) (by omega)).2 rfl
        rw [if_pos hne] at hjr
        rw [c1] at ih
        simp [hj, idxK_exs hk, h21, hjr, e0, ih, hne]
      · have ih := (fs_b n IH l hn hl m (j + 1) (joinL [] x.free) hd' (by omega) (by omega)).1 hne
        rw [if_neg hne] at hjr
        rw [c1] at ih
        have hfl := (frees_len m (joinL [] x.free)).2
        have hne3 : ¬ Ex.frees m (joinL [] x.free) = [] := fun e => by
          rw [e] at hfl
          exact hne (List.eq_nil_of_length_eq_zero (by simpa using hfl))
        simp [hj, idxK_exs hk, h21, hjr, e0, ih, hne3]
theorem Ex.totL_len' (l : List Ex) : l.length ≤ Ex.totL l := Ex.totL_len l
theorem frees_ev (n : Nat) (IH : FreeE n) (l : List Ex) (hn : ∀ x ∈ l, x.tot ≤ n) (hl : Ex.totL l ≤ 1000000) : ev (q31w (exs l)) = some (0, [strs (Ex.frees l [])]) := by
  have hll := Ex.totL_len' l
  have h1 := (fs_b n IH l hn hl l 0 [] rfl (by simpa using hl) (by omega)).2 rfl
  simp only [Int.natCast_zero, Int.ofNat_zero] at h1
  by_cases h : Ex.frees l [] = []
  · rw [if_pos h] at h1
    have h2 : ev (q31 (exs l)) = some (0, [nS]) := Evl.of (by rw [h31, g31]; simp [h1])
    refine Evl.of ?_
    rw [h31w]
    simp [h2, h]; rfl
  · rw [if_neg h] at h1
    have h2 : ev (q31 (exs l)) = some (1, [.rows (srow (Ex.frees l []))]) := Evl.of (by rw [h31, g31]; simp [h1])
    refine Evl.of ?_
    rw [h31w]
    simp [h2]; rfl
/-! The expressions of binds. -/
def exr (l : List Ex) : List (List PV) := l.map Ex.cells
theorem exs_exr (l : List Ex) : exs l = .rows (exr l) := rfl
theorem sl_e : SlT PG 40 11 168 := SlT.of (by kernel_rfl)
@[simp] theorem ns_exr (l : List Ex) : NS (.rows (exr l)) := ns_exs l
theorem exr_one (e : Ex) : [[iv e.kind, sv e.name, iv e.n, iv e.t.kind, sv e.t.name, iv e.t.n, tys e.t.kids, exs e.kids, als e.alts, bds e.binds, iv e.at_]] = exr [e] := by rw [exr, List.map_cons, Ex.cells_eq]; rfl
theorem app_e {k : PV → Res} {l : List Ex} {e : Ex} (h : l.length ≤ 1000000) : appK PG .fail 40 (.pv (.rows (exr l))) (.pv (.rows (exr [e]))) k = k (.rows (exr (l ++ [e]))) := by
  refine appK_of (fun w => ?_) (ns_exr _)
  have hbb : (l.length + 1) * 168 ≤ 140737488355328 := by omega
  rw [exr, exr, app_ok sl_e (es := l.map Ex.cells) (es' := [e].map Ex.cells) rfl rfl (by simp) (by simp [Ex.len11]) (by simp; omega) (by simpa using hbb)]
  rw [exr, List.map_append]
theorem be_b (l : List Bd) (hl : l.length ≤ 1000000) (x0 x1 x2 x3 x4 x5 x6 x7 x8 x10 : PV) : ∀ (m : List Bd) (j : Nat) (acc : List Ex), l.drop j = m → acc.length ≤ j →
    ev (q21b0b (iv (j : Int)) (exr acc) x0 x1 x2 x3 x4 x5 x6 x7 x8 (bds l) x10) = some (1, [x0, x1, x2, x3, x4, x5, x6, x7, x8, bds l, x10, .rows (exr (acc ++ m.map Bd.e))])
  | [], j, acc, hd, ha => by
    have hj := drop_nil hd
    refine Evl.of ?_
    rw [h21b0b, g21b0b]
    simp [hj]
  | x :: m, j, acc, hd, ha => by
    obtain ⟨hk, hj, hd'⟩ := drop_cons hd
    have ih1 := be_b l hl x0 x1 x2 x3 x4 x5 x6 x7 x8 x10 m (j + 1) (acc ++ [x.e]) hd' (by simp <;> omega)
    have e0 := wr (n := j) (by omega)
    rw [c1] at ih1 e0
    refine Evl.of ?_
    rw [h21b0b, g21b0b]
    simp [hj, idxK_bds hk, exr_one, app_e (l := acc) (e := x.e) (by omega), e0, ih1]
theorem be_a (l : List Bd) (hl : l.length ≤ 1000000) (x0 x1 x2 x3 x4 x5 x6 x7 x8 x10 : PV) :
    ev (q21b0a (iv 0) x0 x1 x2 x3 x4 x5 x6 x7 x8 (bds l) x10) = some (if l = [] then (0, [x0, x1, x2, x3, x4, x5, x6, x7, x8, bds l, x10, nS]) else (1, [x0, x1, x2, x3, x4, x5, x6, x7, x8, bds l, x10, .rows (exr (l.map Bd.e))])) := by
  have key : ∀ j : Nat, j = 0 → ev (q21b0a (iv (j : Int)) x0 x1 x2 x3 x4 x5 x6 x7 x8 (bds l) x10) = some (if l = [] then (0, [x0, x1, x2, x3, x4, x5, x6, x7, x8, bds l, x10, nS]) else (1, [x0, x1, x2, x3, x4, x5, x6, x7, x8, bds l, x10, .rows (exr (l.map Bd.e))])) := fun j hj0 => by
    cases l with
    | nil =>
      subst hj0
      refine Evl.of ?_
      rw [h21b0a, g21b0a]
      simp
    | cons x m =>
      have ih1 := be_b (x :: m) hl x0 x1 x2 x3 x4 x5 x6 x7 x8 x10 m (j + 1) [x.e] (by subst hj0; rfl) (by simp)
      have hk : (x :: m)[j]? = some x := by subst hj0; rfl
      have hj : (j : Int) < ((x :: m).length : Int) := by subst hj0; simp <;> omega
      have e0 := wr (n := j) (by omega)
      rw [c1] at ih1 e0
      refine Evl.of ?_
      rw [h21b0a, g21b0a]
      simp [-List.length_cons, hj, idxK_bds hk, exr_one, e0, ih1]
  exact key 0 rfl
/-! The alternatives. -/
theorem al_l (n : Nat) (IH : FreeE n) (l : List Al) (hn : ∀ x ∈ l, x.e.tot ≤ n) (hl : Al.totL l ≤ 1000000) (x0 x1 x2 x3 x4 x5 x6 x7 x9 x10 : PV) : ∀ (m : List Al) (j : Nat) (acc : List ByteArray), l.drop j = m → acc.length + Al.totL m ≤ 1000000 → j + m.length ≤ 1000000 →
    ev (q21b3a (iv (j : Int)) (strs acc) x0 x1 x2 x3 x4 x5 x6 x7 (als l) x9 x10) = some (0, [x0, x1, x2, x3, x4, x5, x6, x7, als l, x9, x10, strs (Al.freeL m acc)])
  | [], j, acc, hd, ha, hjm => by
    have hj := drop_nil hd
    refine Evl.of ?_
    rw [h21b3a, g21b3a]
    simp [hj, Al.freeL]
  | .mk p e :: m, j, acc, hd, ha, hjm => by
    obtain ⟨hk, hj, hd'⟩ := drop_cons hd
    have hxm := List.mem_of_getElem? hk
    rw [Al.totL, Al.tot] at ha
    rw [List.length_cons] at hjm
    have hf := e.free_len
    have hpn := p.nms_le
    have h21 := IH e (hn _ hxm)
    have e0 := wr (n := j) (by omega)
    rw [c1] at e0
    have hw := woL_len e.free p.nms
    have hjl := joinL_len (woL e.free p.nms) acc
    have hnm := nms_ev 1000000 p (by omega) (Nat.le_refl _)
    have hwo := wo_ev e.free p.nms (by omega) (by omega)
    have hjo := join_ev acc (woL e.free p.nms) (by omega) (by omega)
    have ih := al_l n IH l hn hl x0 x1 x2 x3 x4 x5 x6 x7 x9 x10 m (j + 1) (joinL acc (woL e.free p.nms)) hd' (by omega) (by omega)
    rw [c1] at ih
    refine Evl.of ?_
    rw [h21b3a, g21b3a, Al.freeL]
    simp [hj, idxK_als hk, Al.p, Al.e, h21, hnm, hwo, hjo, e0, ih]

theorem Al.totL_mem : ∀ {l : List Al} {x : Al}, x ∈ l → x.e.tot ≤ Al.totL l
  | .mk p e :: l, x, h => by
    rw [Al.totL, Al.tot]
    rcases List.mem_cons.1 h with rfl | h
    · show e.tot ≤ _
      omega
    · have := Al.totL_mem h
      omega
theorem join_one (s : ByteArray) (b : List ByteArray) (hb : b.length ≤ 1000000) : ev (q33w (.rows (srow [s])) (strs b)) = some (0, [strs (joinL [s] b)]) := join_ev [s] b (by simp) hb
theorem join_nil (b : List ByteArray) (hb : b.length ≤ 1000000) : ev (q33w (.rows []) (strs b)) = some (0, [strs (joinL [] b)]) := join_ev [] b (by simp) hb
theorem wo_one (l : List ByteArray) (s : ByteArray) (hl : l.length ≤ 1000000) : ev (q32w (strs l) (.rows (srow [s]))) = some (0, [strs (woL l [s])]) := wo_ev l [s] hl (by simp)
theorem free_step (n : Nat) (IH : FreeE n) (hn : n ≤ 999999) : FreeE (n + 1) := fun e he => by
  have hte := e.tot_eq
  have hbl := Bd.totL_len e.binds
  have hbt := totL_binds e.binds
  have hal := Al.totL_len e.alts
  obtain ⟨N, hN⟩ : ∃ N, N = e.binds.map Bd.name := ⟨_, rfl⟩
  obtain ⟨B, hB⟩ : ∃ B, B = Bd.frees e.binds [] := ⟨_, rfl⟩
  obtain ⟨K, hK⟩ : ∃ K, K = Ex.frees e.kids [] := ⟨_, rfl⟩
  have hNl : N.length ≤ 1000000 := by rw [hN, List.length_map]; omega
  have hBl := (frees_len (e.binds.map Bd.e) []).1
  rw [← frees_binds, ← hB, List.length_nil] at hBl
  have hKl := (frees_len e.kids []).1
  rw [← hK, List.length_nil] at hKl
  have hkt : Ex.totL e.kids ≤ 1000000 := by omega
  have cN := bound_ev e.binds (by omega)
  rw [← hN] at cN
  have cK := frees_ev n IH e.kids (fun x hx => by have := Ex.totL_mem hx; omega) hkt
  rw [← hK] at cK
  have cB : ev (q31w (exs (e.binds.map Bd.e))) = some (0, [strs B]) := by
    have := frees_ev n IH (e.binds.map Bd.e) (fun x hx => by have := Ex.totL_mem hx; omega) (by omega)
    rw [← frees_binds, ← hB] at this
    exact this
  have cA := fun acc (ha : acc.length + Al.totL e.alts ≤ 1000000) => al_l n IH e.alts (fun x hx => by
    have := Al.totL_mem hx
    omega) (by omega) (iv e.kind) (sv e.name) (iv e.n) (iv e.t.kind) (sv e.t.name) (iv e.t.n) (tys e.t.kids) (exs e.kids) (bds e.binds) (iv e.at_) e.alts 0 acc rfl ha (by omega)
  simp only [Int.natCast_zero, Int.ofNat_zero] at cA
  have cD := be_a e.binds (by omega) (iv e.kind) (sv e.name) (iv e.n) (iv e.t.kind) (sv e.t.name) (iv e.t.n) (tys e.t.kids) (exs e.kids) (als e.alts) (iv e.at_)
  have w1 := wo_ev B N (by omega) (by omega)
  have w2 := wo_ev K N (by omega) (by omega)
  have w3 := wo_one K e.name (by omega)
  have l1 := woL_len B N
  have l2 := woL_len K N
  have l3 := woL_len K [e.name]
  rw [Ex.free_eq, ← hN, ← hB, ← hK]
  have gl : ∀ (O X Y : List ByteArray), O.length ≤ 1 → (joinL (joinL O X) Y).length ≤ 1 + X.length + Y.length := fun O X Y h => by have := (joinL_len Y (joinL O X)).2; have := (joinL_len X O).2; omega
  have gj := fun (O X Y : List ByteArray) (h : O.length ≤ 1) (hX : X.length ≤ 999999) (hY : Y.length ≤ 1000000) => join_ev (joinL O X) Y (by have := (joinL_len X O).2; omega) hY
  have cE : ∃ L : PV, ev (q31w L) = some (0, [strs B]) ∧ ((e.binds = [] ∧ L = .rows []) ∨ (e.binds ≠ [] ∧ L = .rows (exr (e.binds.map Bd.e)))) := by
    by_cases hb : e.binds = []
    · exact ⟨.rows [], by rw [hb] at cB; exact cB, .inl ⟨hb, rfl⟩⟩
    · exact ⟨_, cB, .inr ⟨hb, rfl⟩⟩
  obtain ⟨L, cL, hL⟩ := cE
  clear cB
  show ev (q21 (iv e.kind) (sv e.name) (iv e.n) (iv e.t.kind) (sv e.t.name) (iv e.t.n) (tys e.t.kids) (exs e.kids) (als e.alts) (bds e.binds) (iv e.at_)) = _
  generalize e.kind = k at *
  generalize e.n = en at *
  have j1 := join_one e.name K (by omega)
  have j2 := gj [e.name] K B (by simp) (by omega) (by omega)
  have j3 := join_nil (woL B N) (by omega)
  have j4 := gj [] (woL B N) (woL K N) (by simp) (by omega) (by omega)
  have j5 := join_nil B (by omega)
  have j6 := gj [] B (woL K N) (by simp) (by omega) (by omega)
  have j7 := join_nil (woL K [e.name]) (by omega)
  have j8 := gj [] (woL K [e.name]) B (by simp) (by omega) (by omega)
  have j9 := join_nil K (by omega)
  have jA := gj [] K B (by simp) (by omega) (by omega)
  have a1 := cA (joinL (joinL [e.name] K) B) (by have := gl [e.name] K B (by simp); omega)
  have a2 := cA (joinL (joinL [] (woL B N)) (woL K N)) (by have := gl [] (woL B N) (woL K N) (by simp); omega)
  have a3 := cA (joinL (joinL [] B) (woL K N)) (by have := gl [] B (woL K N) (by simp); omega)
  have a4 := cA (joinL (joinL [] (woL K [e.name])) B) (by have := gl [] (woL K [e.name]) B (by simp); omega)
  have a5 := cA (joinL (joinL [] K) B) (by have := gl [] K B (by simp); omega)
  clear cA gj gl
  refine Evl.of ?_
  rw [h21, g21]
  by_cases h3 : k = 3
  · subst h3
    rcases hL with ⟨hb, rfl⟩ | ⟨hb, rfl⟩
    · rw [if_pos hb] at cD
      simp [cD, cN, cK, cL, srow_one, j1, j2, a1]
    · rw [if_neg hb] at cD
      simp [cD, cN, cK, cL, srow_one, j1, j2, a1]
  · by_cases h7 : k = 7
    · subst h7
      by_cases h1 : en = 1
      · subst h1
        rcases hL with ⟨hb, rfl⟩ | ⟨hb, rfl⟩
        · rw [if_pos hb] at cD
          simp [cD, cN, cK, cL, w1, w2, j3, j4, a2]
        · rw [if_neg hb] at cD
          simp [cD, cN, cK, cL, w1, w2, j3, j4, a2]
      · rcases hL with ⟨hb, rfl⟩ | ⟨hb, rfl⟩
        · rw [if_pos hb] at cD
          simp [cD, cN, cK, cL, h1, w1, w2, j5, j6, a3]
        · rw [if_neg hb] at cD
          simp [cD, cN, cK, cL, h1, w1, w2, j5, j6, a3]
    · by_cases h6 : k = 6
      · subst h6
        rcases hL with ⟨hb, rfl⟩ | ⟨hb, rfl⟩
        · rw [if_pos hb] at cD
          simp [cD, cN, cK, cL, w3, srow_one, j7, j8, a4]
        · rw [if_neg hb] at cD
          simp [cD, cN, cK, cL, w3, srow_one, j7, j8, a4]
      · rcases hL with ⟨hb, rfl⟩ | ⟨hb, rfl⟩
        · rw [if_pos hb] at cD
          simp [cD, cN, cK, cL, h3, h7, h6, j9, jA, a5]
        · rw [if_neg hb] at cD
          simp [cD, cN, cK, cL, h3, h7, h6, j9, jA, a5]
theorem Ex.tot_pos' (e : Ex) : 0 < e.tot := by rw [Ex.tot_eq]; omega
theorem free_all : ∀ n : Nat, n ≤ 1000000 → FreeE n
  | 0, _ => fun e h => by have := e.tot_pos'; omega
  | n + 1, h => free_step n (free_all n (by omega)) (by omega)
theorem free_ev (e : Ex) (h : e.tot ≤ 1000000) : ev (qF e) = some (0, [strs e.free]) := free_all 1000000 (Nat.le_refl _) e h

theorem X_bds {l : List Bd} {i : Nat} {x : Bd} (h : l[i]? = some x) (K : PV → PV → PV → PV → PV → PV → PV → PV → PV → PV → PV → PV → PV → Sm) (O : Q → Option Rs) : R.X (T := Sm) 36 (bds l) (iv (i : Int)) (R.w13 K) O = K (sv x.name) (iv x.e.kind) (sv x.e.name) (iv x.e.n) (iv x.e.t.kind) (sv x.e.t.name) (iv x.e.t.n) (tys x.e.t.kids) (exs x.e.kids) (als x.e.alts) (bds x.e.binds) (iv x.e.at_) (iv x.at_) O := by
  rw [m_X, xV, idxK_bds h, cptrK_c]; rfl
theorem X_strs {l : List ByteArray} {i : Nat} {x : ByteArray} (h : l[i]? = some x) (K : PV → Sm) (O : Q → Option Rs) : R.X (T := Sm) 55 (strs l) (iv (i : Int)) (R.w1 K) O = K (sv x) O := by
  rw [m_X, xV, idxK_strs h, cptrK_c]; rfl
theorem eqS_f {a b : ByteArray} (h : a ≠ b) : eqS a b = false := by
  cases h2 : eqS a b with
  | false => rfl
  | true => exact absurd (eqS_true.1 h2) h
theorem ivs_one (z : Int) : [[PV.lit (.int .i64 z)]] = ivs [z] := rfl
theorem ns_ivs' (l : List Int) : NS (.rows (ivs l)) := r1_ns iv_ns l
theorem app_iv {k : PV → Res} {l : List Int} {z : Int} (h : l.length ≤ 1000000000) : appK PG .fail 31 (.pv (.rows (ivs l))) (.pv (.rows (ivs [z]))) k = k (.rows (ivs (l ++ [z]))) := appK_r1 sl_i iv_ns (by decide) h
theorem wrapN (l : List Bd) (h : l.length ≤ 1000000) : IntKind.i64.wrap ((l.length : Int) + 1) = (l.length : Int) + 1 := by rw [IntKind.wrap_i64]; omega
theorem notlt (n : Int) : ¬ n + 1 < n := by omega
section
variable (l : List Bd) (hl : l.length ≤ 1000000) (fr : List ByteArray) (t : ByteArray) (j : Nat) (hfr : fr[j]? = some t) (i : PV)
theorem b4_e (row out : List (List PV)) :
    ev (q14b4e (iv ((l.length : Int) + 1)) (bds l) (strs fr) (iv j) row i) = some (1, [iv j, strs fr, bds l, .rows row, nS, i]) ∧
    ev (q14b4f (iv ((l.length : Int) + 1)) (bds l) (strs fr) (iv j) row out i) = some (2, [iv j, strs fr, bds l, .rows row, .rows out, i]) ∧
    ev (q14b4g (iv ((l.length : Int) + 1)) (bds l) (strs fr) (iv j) row i) = some (3, [iv j, strs fr, bds l, .rows row, nS, i]) ∧
    ev (q14b4h (iv ((l.length : Int) + 1)) (bds l) (strs fr) (iv j) row out i) = some (1, [iv j, strs fr, bds l, .rows row, .rows out, i]) := by
  have h := notlt (l.length : Int)
  refine ⟨Evl.of ?_, Evl.of ?_, Evl.of ?_, Evl.of ?_⟩
  · rw [h14b4e, g14b4e]; simp [h]
  · rw [h14b4f, g14b4f]; simp [h]
  · rw [h14b4g, g14b4g]; simp [h]
  · rw [h14b4h, g14b4h]; simp [h]
include hl hfr in
set_option maxHeartbeats 4000000 in
theorem b4 : ∀ (m : List Bd) (k : Nat), l.drop k = m →
    (ev (q14b4a (iv (k : Int)) (bds l) (strs fr) (iv j) i) = some (if 0 ≤ bIdx t m k then (1, [iv j, strs fr, bds l, .rows (ivs [bIdx t m k]), nS, i]) else (0, [iv j, strs fr, bds l, nS, nS, i]))) ∧
    (∀ out, ev (q14b4b (iv (k : Int)) (bds l) (strs fr) (iv j) out i) = some (if 0 ≤ bIdx t m k then (2, [iv j, strs fr, bds l, .rows (ivs [bIdx t m k]), .rows out, i]) else (0, [iv j, strs fr, bds l, nS, .rows out, i]))) ∧
    (∀ row : List Int, row.length ≤ 1000000000 → ev (q14b4c (iv (k : Int)) (bds l) (strs fr) (iv j) (ivs row) i) = some (if 0 ≤ bIdx t m k then (3, [iv j, strs fr, bds l, .rows (ivs (row ++ [bIdx t m k])), nS, i]) else (1, [iv j, strs fr, bds l, .rows (ivs row), nS, i]))) ∧
    (∀ (row : List Int) (out), row.length ≤ 1000000000 → ev (q14b4d (iv (k : Int)) (bds l) (strs fr) (iv j) (ivs row) out i) = some (if 0 ≤ bIdx t m k then (1, [iv j, strs fr, bds l, .rows (ivs (row ++ [bIdx t m k])), .rows out, i]) else (0, [iv j, strs fr, bds l, .rows (ivs row), .rows out, i])))
  | [], k, hd => by
    have hj := drop_nil hd
    refine ⟨Evl.of ?_, fun out => Evl.of ?_, fun row hr => Evl.of ?_, fun row out hr => Evl.of ?_⟩
    · rw [h14b4a, g14b4a]; simp [hj, bIdx]
    · rw [h14b4b, g14b4b]; simp [hj, bIdx]
    · rw [h14b4c, g14b4c]; simp [hj, bIdx]
    · rw [h14b4d, g14b4d]; simp [hj, bIdx]
  | x :: m, k, hd => by
    obtain ⟨hk, hj, hd'⟩ := drop_cons hd
    have e0 := wr (n := k) (by omega)
    have eN := wrapN l hl
    rw [c1] at e0
    have hE := fun row out => b4_e l fr j i row out
    by_cases h : x.name = t
    · have hi : bIdx t (x :: m) k = (k : Int) := by rw [bIdx, if_pos (eqS_true.2 h)]
      have hp : (0 : Int) ≤ (k : Int) := by omega
      rw [hi]
      refine ⟨Evl.of ?_, fun out => Evl.of ?_, fun row hr => Evl.of ?_, fun row out hr => Evl.of ?_⟩
      · rw [h14b4a, g14b4a, if_pos hp]; simp [-m_X, hj, ↓X_bds hk, ↓X_strs hfr, h, eN, ivs_one, (hE (ivs [(k : Int)]) []).1]
      · rw [h14b4b, g14b4b, if_pos hp]; simp [-m_X, hj, ↓X_bds hk, ↓X_strs hfr, h, eN, ivs_one, (hE (ivs [(k : Int)]) out).2.1]
      · rw [h14b4c, g14b4c, if_pos hp]; simp [-m_X, hj, ↓X_bds hk, ↓X_strs hfr, h, eN, ivs_one, app_iv hr, (hE (ivs (row ++ [(k : Int)])) []).2.2.1]
      · rw [h14b4d, g14b4d, if_pos hp]; simp [-m_X, hj, ↓X_bds hk, ↓X_strs hfr, h, eN, ivs_one, app_iv hr, (hE (ivs (row ++ [(k : Int)])) out).2.2.2]
    · have hi : bIdx t (x :: m) k = bIdx t m (k + 1) := by rw [bIdx, if_neg (by rw [eqS_f h]; simp)]
      obtain ⟨i1, i2, i3, i4⟩ := b4 m (k + 1) hd'
      rw [hi]
      rw [c1] at i1 i2 i3 i4
      refine ⟨Evl.of ?_, fun out => Evl.of ?_, fun row hr => Evl.of ?_, fun row out hr => Evl.of ?_⟩
      · rw [h14b4a, g14b4a]; simp [-m_X, hj, ↓X_bds hk, ↓X_strs hfr, h, e0, i1]
      · rw [h14b4b, g14b4b]; simp [-m_X, hj, ↓X_bds hk, ↓X_strs hfr, h, e0, i2 out]
      · rw [h14b4c, g14b4c]; simp [-m_X, hj, ↓X_bds hk, ↓X_strs hfr, h, e0, i3 row hr]
      · rw [h14b4d, g14b4d]; simp [-m_X, hj, ↓X_bds hk, ↓X_strs hfr, h, e0, i4 row out hr]
end
section
variable (l : List Bd) (hl : l.length ≤ 1000000) (fr : List ByteArray) (hf : fr.length ≤ 1000000) (i : PV)
include hl hf in
theorem b2_c : ∀ (m : List ByteArray) (j : Nat) (row : List Int), fr.drop j = m → row.length ≤ j →
    ev (q14b2c (iv (j : Int)) (strs fr) (bds l) (ivs row) i) = some (1, [nS, .rows (ivs (row ++ rowN l m)), i, bds l]) ∧
    ∀ out, ev (q14b2d (iv (j : Int)) (strs fr) (bds l) (ivs row) out i) = some (1, [.rows out, .rows (ivs (row ++ rowN l m)), i, bds l])
  | [], j, row, hd, hr => by
    have hj := drop_nil hd
    refine ⟨Evl.of ?_, fun out => Evl.of ?_⟩
    · rw [h14b2c, g14b2c]; simp [hj, rowN]
    · rw [h14b2d, g14b2d]; simp [hj, rowN]
  | t :: m, j, row, hd, hr => by
    obtain ⟨hk, hj, hd'⟩ := drop_cons hd
    have e0 := wr (n := j) (by omega)
    rw [c1] at e0
    obtain ⟨_, _, c3, c4⟩ := b4 l hl fr t j hk i l 0 rfl
    simp only [Int.natCast_zero, Int.ofNat_zero] at c3 c4
    have d3 := c3 row (by omega)
    have d4 := fun out => c4 row out (by omega)
    rw [rowN]
    by_cases h : 0 ≤ bIdx t l 0
    · obtain ⟨i1, i2⟩ := b2_c m (j + 1) (row ++ [bIdx t l 0]) hd' (by simp <;> omega)
      rw [c1] at i1 i2
      rw [if_pos h] at d3 ⊢
      simp only [if_pos h] at d4
      refine ⟨Evl.of ?_, fun out => Evl.of ?_⟩
      · rw [h14b2c, g14b2c]; simp [hj, d3, e0, i1]
      · rw [h14b2d, g14b2d]; simp [hj, d4 out, e0, i2 out]
    · obtain ⟨i1, i2⟩ := b2_c m (j + 1) row hd' (by omega)
      rw [c1] at i1 i2
      rw [if_neg h] at d3 ⊢
      simp only [if_neg h] at d4
      refine ⟨Evl.of ?_, fun out => Evl.of ?_⟩
      · rw [h14b2c, g14b2c]; simp [hj, d3, e0, i1]
      · rw [h14b2d, g14b2d]; simp [hj, d4 out, e0, i2 out]
include hl hf in
theorem b2_a : ∀ (m : List ByteArray) (j : Nat), fr.drop j = m →
    ev (q14b2a (iv (j : Int)) (strs fr) (bds l) i) = some (if rowN l m = [] then (0, [nS, nS, i, bds l]) else (1, [nS, .rows (ivs (rowN l m)), i, bds l])) ∧
    ∀ out, ev (q14b2b (iv (j : Int)) (strs fr) (bds l) out i) = some (if rowN l m = [] then (0, [.rows out, nS, i, bds l]) else (1, [.rows out, .rows (ivs (rowN l m)), i, bds l]))
  | [], j, hd => by
    have hj := drop_nil hd
    refine ⟨Evl.of ?_, fun out => Evl.of ?_⟩
    · rw [h14b2a, g14b2a]; simp [hj, rowN]
    · rw [h14b2b, g14b2b]; simp [hj, rowN]
  | t :: m, j, hd => by
    obtain ⟨hk, hj, hd'⟩ := drop_cons hd
    have e0 := wr (n := j) (by omega)
    rw [c1] at e0
    obtain ⟨d1, d2, _, _⟩ := b4 l hl fr t j hk i l 0 rfl
    simp only [Int.natCast_zero, Int.ofNat_zero] at d1 d2
    rw [rowN]
    by_cases h : 0 ≤ bIdx t l 0
    · obtain ⟨i1, i2⟩ := b2_c l hl fr hf i m (j + 1) [bIdx t l 0] hd' (by simp)
      rw [c1] at i1 i2
      rw [if_pos h] at d1
      simp only [if_pos h] at d2 ⊢
      have hne : ¬ ([bIdx t l 0] ++ rowN l m = []) := by simp
      simp only [if_neg hne]
      refine ⟨Evl.of ?_, fun out => Evl.of ?_⟩
      · rw [h14b2a, g14b2a]; simp [hj, d1, e0, i1]
      · rw [h14b2b, g14b2b]; simp [hj, d2 out, e0, i2 out]
    · obtain ⟨i1, i2⟩ := b2_a m (j + 1) hd'
      rw [c1] at i1 i2
      rw [if_neg h] at d1 ⊢
      simp only [if_neg h] at d2
      rw [List.nil_append]
      refine ⟨Evl.of ?_, fun out => Evl.of ?_⟩
      · rw [h14b2a, g14b2a]; simp [hj, d1, e0, i1]
      · rw [h14b2b, g14b2b]; simp [hj, d2 out, e0, i2 out]
end
/-! The rows. -/
def mix (r : List Int) : PV := if r = [] then nS else .rows (ivs r)
theorem mix_ns (r : List Int) : NS (mix r) := by
  unfold mix
  split
  · exact .lit _
  · exact ns_ivs' r
def mixs (l : List (List Int)) : List (List PV) := l.map fun r => [mix r]
theorem mixs_ns (l : List (List Int)) : NS (.rows (mixs l)) := r1_ns mix_ns l
theorem app_m0 {k : PV → Res} {o : List (List Int)} (h : o.length ≤ 1000000000) : appK PG .fail 22 (.pv (.rows (mixs o))) (.pv (.rows [[.lit (.slice none 0 0)]])) k = k (.rows (mixs (o ++ [[]]))) := appK_r1 (e := mix) (x := []) sl_ii mix_ns (by decide) h
theorem app_mr {k : PV → Res} {o : List (List Int)} {r : List Int} (hr : r ≠ []) (h : o.length ≤ 1000000000) : appK PG .fail 22 (.pv (.rows (mixs o))) (.pv (.rows [[.rows (ivs r)]])) k = k (.rows (mixs (o ++ [r]))) := by
  have := appK_r1 (d := (.fail : Res)) (k := k) (e := mix) (x := r) sl_ii mix_ns (by decide) h
  rw [show mix r = .rows (ivs r) from if_neg hr] at this
  exact this
theorem one_m0 : [[PV.lit (.slice none 0 0)]] = mixs [[]] := rfl
theorem one_mr {r : List Int} (hr : r ≠ []) : [[PV.rows (ivs r)]] = mixs [r] := by
  rw [mixs, List.map_cons, show mix r = .rows (ivs r) from if_neg hr]; rfl
def nRow (l : List Bd) (x : Bd) : List Int := rowN l (x.e.fr [] [])
theorem rows_b (l : List Bd) (hl : l.length ≤ 1000000) (ht : ∀ x ∈ l, x.e.tot ≤ 1000000) : ∀ (m : List Bd) (i : Nat) (o : List (List Int)), l.drop i = m → o.length ≤ i →
    ev (q14b0b (iv (i : Int)) (bds l) (mixs o)) = some (1, [.rows (mixs (o ++ m.map (nRow l)))])
  | [], i, o, hd, ho => by
    have hj := drop_nil hd
    refine Evl.of ?_
    rw [h14b0b, g14b0b]; simp [hj]
  | x :: m, i, o, hd, ho => by
    obtain ⟨hk, hj, hd'⟩ := drop_cons hd
    have hxt := ht x (List.mem_of_getElem? hk)
    have e0 := wr (n := i) (by omega)
    rw [c1] at e0
    have h21 := free_ev x.e hxt
    have hfl := x.e.free_len
    obtain ⟨_, d2⟩ := b2_a l hl x.e.free (by omega) (iv i) x.e.free 0 rfl
    simp only [Int.natCast_zero, Int.ofNat_zero] at d2
    have hnr : nRow l x = rowN l x.e.free := by unfold nRow; rw [Ex.fr_all]
    have ih := rows_b l hl ht m (i + 1) (o ++ [nRow l x]) hd' (by simp <;> omega)
    rw [c1] at ih
    rw [hnr] at ih
    rw [List.map_cons, hnr]
    have d2 := d2 (mixs o)
    refine Evl.of ?_
    rw [h14b0b, g14b0b]
    by_cases h : rowN l x.e.free = []
    · rw [if_pos h] at d2
      rw [h] at ih ⊢
      simp [-m_X, hj, ↓X_bds hk, h21, d2, app_m0 (o := o) (by omega), e0, ih]
    · rw [if_neg h] at d2
      simp [-m_X, hj, ↓X_bds hk, h21, d2, app_mr (o := o) h (by omega), e0, ih]
theorem needs_ev (l : List Bd) (hl : l.length ≤ 1000000) (ht : ∀ x ∈ l, x.e.tot ≤ 1000000) : ev (q14 (bds l)) = some (if l = [] then (0, [nS]) else (1, [.rows (mixs (needsL l))])) := by
  have key : ∀ i : Nat, i = 0 → ev (q14b0a (iv (i : Int)) (bds l)) = some (if l = [] then (0, [nS]) else (1, [.rows (mixs (needsL l))])) := fun i hi0 => by
    cases l with
    | nil =>
      subst hi0
      refine Evl.of ?_
      rw [h14b0a, g14b0a]
      simp
    | cons x m =>
      have hk : (x :: m)[i]? = some x := by subst hi0; rfl
      have hj : (i : Int) < ((x :: m).length : Int) := by subst hi0; simp <;> omega
      have hxt := ht x (by simp)
      have e0 := wr (n := i) (by omega)
      rw [c1] at e0
      have h21 := free_ev x.e hxt
      have hfl := x.e.free_len
      obtain ⟨d1, _⟩ := b2_a (x :: m) hl x.e.free (by omega) (iv i) x.e.free 0 rfl
      simp only [Int.natCast_zero, Int.ofNat_zero] at d1
      have hnr : nRow (x :: m) x = rowN (x :: m) x.e.free := by unfold nRow; rw [Ex.fr_all]
      have ih := rows_b (x :: m) hl ht m (i + 1) [nRow (x :: m) x] (by subst hi0; rfl) (by simp)
      rw [c1, hnr] at ih
      have hne : needsL (x :: m) = [rowN (x :: m) x.e.free] ++ m.map (nRow (x :: m)) := by rw [← hnr]; rfl
      rw [hne]
      refine Evl.of ?_
      rw [h14b0a, g14b0a]
      by_cases h : rowN (x :: m) x.e.free = []
      · rw [if_pos h] at d1
        rw [h] at ih ⊢
        simp [-m_X, -List.length_cons, hj, ↓X_bds hk, h21, d1, one_m0, e0, ih]
      · rw [if_neg h] at d1
        simp [-m_X, -List.length_cons, hj, ↓X_bds hk, h21, d1, one_mr h, e0, ih]
  have h1 := key 0 rfl
  simp only [Int.natCast_zero, Int.ofNat_zero] at h1
  by_cases h : l = []
  · rw [if_pos h] at h1 ⊢
    exact Evl.of (by rw [h14, g14]; simp [h1])
  · rw [if_neg h] at h1 ⊢
    exact Evl.of (by rw [h14, g14]; simp [h1])

theorem wone {i j : Nat} (h : j = i + 1) (hi : i ≤ 2000000) : IntKind.i64.wrap ((i : Int) + 1) = (j : Int) := by
  subst h
  rw [IntKind.wrap_i64]; omega
theorem Bd.totL_mem : ∀ {l : List Bd} {x : Bd}, x ∈ l → x.e.tot ≤ Bd.totL l
  | .mk s e a :: l, x, h => by
    rw [Bd.totL, Bd.tot]
    rcases List.mem_cons.1 h with rfl | h
    · show e.tot ≤ _
      omega
    · have := Bd.totL_mem h
      omega
theorem X_exs {l : List Ex} {i : Nat} {x : Ex} (h : l[i]? = some x) (K : PV → PV → PV → PV → PV → PV → PV → PV → PV → PV → PV → Sm) (O : Q → Option Rs) : R.X (T := Sm) 40 (exs l) (iv (i : Int)) (R.w11 K) O = K (iv x.kind) (sv x.name) (iv x.n) (iv x.t.kind) (sv x.t.name) (iv x.t.n) (tys x.t.kids) (exs x.kids) (als x.alts) (bds x.binds) (iv x.at_) O := by
  rw [m_X, xV, idxK_exs h, cptrK_c]; rfl
theorem X_als {l : List Al} {i : Nat} {x : Al} (h : l[i]? = some x) (K : PV → PV → PV → PV → PV → PV → PV → PV → PV → PV → PV → PV → PV → PV → PV → PV → Sm) (O : Q → Option Rs) : R.X (T := Sm) 41 (als l) (iv (i : Int)) (R.w16 K) O = K (iv x.p.kind) (sv x.p.name) (iv x.p.n) (pts x.p.kids) (iv x.p.at_) (iv x.e.kind) (sv x.e.name) (iv x.e.n) (iv x.e.t.kind) (sv x.e.t.name) (iv x.e.t.n) (tys x.e.t.kids) (exs x.e.kids) (als x.e.alts) (bds x.e.binds) (iv x.e.at_) O := by
  rw [m_X, xV, idxK_als h, cptrK_c]; rfl
/-- A loop with a number that may leave. -/
theorem num_ev {α : Type} (l : List α) (q : Nat → Int → Q) (fin : Int → Rs) (hl : l.length ≤ 2000000)
    (hs : ∀ (i j : Nat) (x : α) (s : Int), IntKind.i64.wrap ((i : Int) + 1) = (j : Int) → l[i]? = some x → x ∈ l → (i : Int) < (l.length : Int) → (∃ s', body PG EE TT ev (q i s) = .ok (fin s')) ∨ ∃ s', body PG EE TT ev (q i s) = passK (ev (q j s')))
    (he : ∀ s, body PG EE TT ev (q l.length s) = .ok (fin s)) (s : Int) : ∃ s', ev (q 0 s) = some (fin s') := by
  have key : ∀ (m i : Nat) (s : Int), i + m = l.length → ∃ s', ev (q i s) = some (fin s') := by
    intro m
    induction m with
    | zero =>
      intro i s hi
      rw [Nat.add_zero] at hi
      subst hi
      exact ⟨s, Evl.of (he s)⟩
    | succ m ih =>
      intro i s hi
      have hlt : i < l.length := by omega
      obtain ⟨j, hj⟩ : ∃ j, j = i + 1 := ⟨_, rfl⟩
      rcases hs i j l[i] s (wone hj (by omega)) (List.getElem?_eq_getElem hlt) (List.getElem_mem hlt) (by omega) with ⟨s', h⟩ | ⟨s', h⟩
      · exact ⟨s', Evl.of h⟩
      · obtain ⟨r, hr⟩ := ih j s' (by omega)
        refine ⟨r, Evl.of ?_⟩
        rw [h, hr]
        rfl
  exact key l.length 0 s (by omega)
def CntE (x : Ex) : Prop := ∀ most : Int, ∃ c : Int, ev (q20 (iv x.kind) (sv x.name) (iv x.n) (iv x.t.kind) (sv x.t.name) (iv x.t.n) (tys x.t.kids) (exs x.kids) (als x.alts) (bds x.binds) (iv x.at_) (iv most)) = some (0, [iv c])
theorem cnt_x : ∀ (n : Nat) (x : Ex), x.tot ≤ n → n ≤ 2000000 → CntE x := by
  intro n
  induction n with
  | zero => intro x h _; have := x.tot_pos'; omega
  | succ n ih =>
    intro x h hn most
    have hte := x.tot_eq
    have hl1 : x.kids.length ≤ 2000000 := by have := Ex.totL_len x.kids; omega
    have hl2 : x.alts.length ≤ 2000000 := by have := Al.totL_len x.alts; omega
    have hl3 : x.binds.length ≤ 2000000 := by have := Bd.totL_len x.binds; omega
    have c0 : ∀ s, ∃ s', ev (q20b0a (iv 0) (iv s) (iv most) (iv x.kind) (sv x.name) (iv x.n) (iv x.t.kind) (sv x.t.name) (iv x.t.n) (tys x.t.kids) (exs x.kids) (als x.alts) (bds x.binds) (iv x.at_)) = some (0, [iv x.kind, sv x.name, iv x.n, iv x.t.kind, sv x.t.name, iv x.t.n, tys x.t.kids, exs x.kids, als x.alts, bds x.binds, iv x.at_, iv s', iv most]) := fun s =>
      num_ev x.kids (fun i s => q20b0a (iv (i : Int)) (iv s) (iv most) (iv x.kind) (sv x.name) (iv x.n) (iv x.t.kind) (sv x.t.name) (iv x.t.n) (tys x.t.kids) (exs x.kids) (als x.alts) (bds x.binds) (iv x.at_)) (fun s => (0, [iv x.kind, sv x.name, iv x.n, iv x.t.kind, sv x.t.name, iv x.t.n, tys x.t.kids, exs x.kids, als x.alts, bds x.binds, iv x.at_, iv s, iv most])) hl1 (fun i j y s e0 hx hm hi => by
        by_cases c : s < most
        · obtain ⟨r, hr⟩ := ih y (by have := Ex.totL_mem hm; omega) (by omega) (IntKind.i64.wrap (most - s))
          refine .inr ⟨IntKind.i64.wrap (s + r), ?_⟩
          rw [h20b0a, g20b0a]
          simp [-m_X, hi, c, ↓X_exs hx, hr, e0]
        · refine .inl ⟨s, ?_⟩
          rw [h20b0a, g20b0a]
          simp [hi, c]) (fun s => by
        rw [h20b0a, g20b0a]
        simp) s
    have c2 : ∀ s, ∃ s', ev (q20b2a (iv 0) (iv s) (iv most) (iv x.kind) (sv x.name) (iv x.n) (iv x.t.kind) (sv x.t.name) (iv x.t.n) (tys x.t.kids) (exs x.kids) (als x.alts) (bds x.binds) (iv x.at_)) = some (0, [iv x.kind, sv x.name, iv x.n, iv x.t.kind, sv x.t.name, iv x.t.n, tys x.t.kids, exs x.kids, als x.alts, bds x.binds, iv x.at_, iv s', iv most]) := fun s =>
      num_ev x.binds (fun i s => q20b2a (iv (i : Int)) (iv s) (iv most) (iv x.kind) (sv x.name) (iv x.n) (iv x.t.kind) (sv x.t.name) (iv x.t.n) (tys x.t.kids) (exs x.kids) (als x.alts) (bds x.binds) (iv x.at_)) (fun s => (0, [iv x.kind, sv x.name, iv x.n, iv x.t.kind, sv x.t.name, iv x.t.n, tys x.t.kids, exs x.kids, als x.alts, bds x.binds, iv x.at_, iv s, iv most])) hl3 (fun i j y s e0 hx hm hi => by
        by_cases c : s < most
        · obtain ⟨r, hr⟩ := ih y.e (by have := Bd.totL_mem hm; omega) (by omega) (IntKind.i64.wrap (most - s))
          refine .inr ⟨IntKind.i64.wrap (s + IntKind.i64.wrap (1 + r)), ?_⟩
          rw [h20b2a, g20b2a]
          simp [-m_X, hi, c, ↓X_bds hx, hr, e0]
        · refine .inl ⟨s, ?_⟩
          rw [h20b2a, g20b2a]
          simp [hi, c]) (fun s => by
        rw [h20b2a, g20b2a]
        simp) s
    have c4 : ∀ s, ∃ s', ev (q20b4a (iv 0) (iv s) (iv most) (iv x.kind) (sv x.name) (iv x.n) (iv x.t.kind) (sv x.t.name) (iv x.t.n) (tys x.t.kids) (exs x.kids) (als x.alts) (bds x.binds) (iv x.at_)) = some (0, [iv x.kind, sv x.name, iv x.n, iv x.t.kind, sv x.t.name, iv x.t.n, tys x.t.kids, exs x.kids, als x.alts, bds x.binds, iv x.at_, iv s']) := fun s =>
      num_ev x.alts (fun i s => q20b4a (iv (i : Int)) (iv s) (iv most) (iv x.kind) (sv x.name) (iv x.n) (iv x.t.kind) (sv x.t.name) (iv x.t.n) (tys x.t.kids) (exs x.kids) (als x.alts) (bds x.binds) (iv x.at_)) (fun s => (0, [iv x.kind, sv x.name, iv x.n, iv x.t.kind, sv x.t.name, iv x.t.n, tys x.t.kids, exs x.kids, als x.alts, bds x.binds, iv x.at_, iv s])) hl2 (fun i j y s e0 hx hm hi => by
        by_cases c : s < most
        · obtain ⟨r, hr⟩ := ih y.e (by have := Al.totL_mem hm; omega) (by omega) (IntKind.i64.wrap (most - s))
          refine .inr ⟨IntKind.i64.wrap (s + IntKind.i64.wrap (IntKind.i64.wrap (1 + r) + (y.p.kids.length : Int))), ?_⟩
          rw [h20b4a, g20b4a]
          simp [-m_X, hi, c, ↓X_als hx, hr, e0]
        · refine .inl ⟨s, ?_⟩
          rw [h20b4a, g20b4a]
          simp [hi, c]) (fun s => by
        rw [h20b4a, g20b4a]
        simp) s
    obtain ⟨r0, h0⟩ := c0 (IntKind.i64.wrap (1 + (x.t.kids.length : Int)))
    obtain ⟨r2, h2⟩ := c2 r0
    obtain ⟨r4, h4⟩ := c4 r2
    refine ⟨r4, Evl.of ?_⟩
    rw [h20, g20]
    simp [h0, h2, h4]
theorem small_x (x : Ex) (hz : x.tot ≤ 2000000) (most : Int) : ∃ b : Bool, ev (q13 (iv x.kind) (sv x.name) (iv x.n) (iv x.t.kind) (sv x.t.name) (iv x.t.n) (tys x.t.kids) (exs x.kids) (als x.alts) (bds x.binds) (iv x.at_) (iv most)) = some (0, [bv b]) := by
  obtain ⟨c, hc⟩ := cnt_x 2000000 x hz (Nat.le_refl _) (IntKind.i64.wrap (most + 1))
  by_cases h : c ≤ most
  · exact ⟨true, Evl.of (by rw [h13, g13]; simp [hc, h])⟩
  · exact ⟨false, Evl.of (by rw [h13, g13]; simp [hc, h])⟩
/-! Two lists of rows that are one. -/
theorem same_in (G : List (List Nat)) {i : Nat} {g : List Nat} (hx : G[i]? = some g) (hg : g.length ≤ 1000000000) : ∀ (m : List Nat) (j : Nat), g.drop j = m →
    ev (q11b2a (iv (j : Int)) (nss G) (iv i) (nss G)) = some (1, [iv i, nss G, nss G])
  | [], j, hd => by
    have hj : ¬ (j : Int) < g.length := by have := congrArg List.length hd; simp at this; omega
    refine Evl.of ?_
    rw [h11b2a, g11b2a]
    simp [idx_nss hx, hj]
  | k :: m, j, hd => by
    have hk : g[j]? = some k := by have := congrArg List.head? hd; rwa [List.head?_drop] at this
    have hj : (j : Int) < g.length := by have := (List.getElem?_eq_some_iff.1 hk).1; omega
    have hd' : g.drop (j + 1) = m := by rw [← List.drop_drop, hd]; rfl
    have ih := same_in G hx hg m (j + 1) hd'
    have e0 := wr (n := j) (by omega)
    rw [c1] at ih e0
    refine Evl.of ?_
    rw [h11b2a, g11b2a]
    simp [idx_nss hx, hj, idx_nvs hk, e0, ih]
theorem same_out (G : List (List Nat)) (hG : G.length ≤ 1000000000) (hg : ∀ g ∈ G, g.length ≤ 1000000000) : ∀ (m : List (List Nat)) (i : Nat), G.drop i = m →
    ev (q11b0a (iv (i : Int)) (nss G) (nss G)) = some (1, [])
  | [], i, hd => by
    have hj : ¬ (i : Int) < G.length := by have := congrArg List.length hd; simp at this; omega
    refine Evl.of ?_
    rw [h11b0a, g11b0a]
    simp [hj]
  | g :: m, i, hd => by
    have hx : G[i]? = some g := by have := congrArg List.head? hd; rwa [List.head?_drop] at this
    have hj : (i : Int) < G.length := by have := (List.getElem?_eq_some_iff.1 hx).1; omega
    have hd' : G.drop (i + 1) = m := by rw [← List.drop_drop, hd]; rfl
    have ih := same_out G hG hg m (i + 1) hd'
    have e0 := wr (n := i) (by omega)
    rw [c1] at ih e0
    have h1 := same_in G hx (hg g (List.mem_of_getElem? hx)) g 0 rfl
    simp only [Int.natCast_zero, Int.ofNat_zero] at h1
    refine Evl.of ?_
    rw [h11b0a, g11b0a]
    simp [hj, idx_nss hx, h1, e0, ih]
theorem same_self (G : List (List Nat)) (hG : G.length ≤ 1000000000) (hg : ∀ g ∈ G, g.length ≤ 1000000000) : ev (q11 (nss G) (nss G)) = some (0, [bv true]) := by
  have h1 := same_out G hG hg G 0 rfl
  simp only [Int.natCast_zero, Int.ofNat_zero] at h1
  refine Evl.of ?_
  rw [h11, g11]
  simp [h1]
theorem same_nil : ev (q11 nS (nss [])) = some (0, [bv true]) := by
  have h1 : ev (q11b0a (iv 0) nS (nss [])) = some (1, []) := Evl.of (by
    rw [h11b0a, g11b0a]; simp)
  refine Evl.of ?_
  rw [h11, g11]
  simp [h1]
theorem grpR_len {N : List (List Nat)} (a : Nat) : (grpR N a).length ≤ N.length := by
  unfold grpR
  have := List.length_filter_le (tog N a) (List.range N.length)
  rwa [List.length_range] at this
theorem groupsR_len {N : List (List Nat)} (hr : Rng N) : (groupsR N).length ≤ N.length ∧ ∀ g ∈ groupsR N, g.length ≤ N.length := by
  refine ⟨?_, fun g hg => ?_⟩
  · have key : ∀ (t : Nat) (c : List Bool) (o : List (List Nat)), (refF N t c o).length ≤ o.length + t := by
      intro t
      induction t with
      | zero => intro c o; exact Nat.le_refl _
      | succ t ih =>
        intro c o
        rw [refF]
        split
        · have := ih c o; omega
        · rename_i a _
          have := ih (markR c (grpR N a)) (o ++ [grpR N a])
          simp at this
          omega
    have := key N.length (List.replicate N.length false) []
    simpa [groupsR] using this
  · obtain ⟨cr, h, _⟩ := groupsR_outs hr
    obtain ⟨a, _, rfl⟩ := h.grp g hg
    exact grpR_len a
theorem same_g {N : List (List Nat)} (hB : Bnd N) : ev (q11 (gOut (groupsR N)) (nss (groupsR N))) = some (0, [bv true]) := by
  obtain ⟨h1, h2⟩ := groupsR_len hB.rng
  have hl := hB.len
  unfold gOut
  by_cases h : groupsR N = []
  · rw [if_pos h, h]; exact same_nil
  · rw [if_neg h]; exact same_self _ (by omega) (fun g hg => by have := h2 g hg; omega)
/-! The needs are in range. -/
theorem bIdx_rng (t : ByteArray) : ∀ (m : List Bd) (k : Nat), 0 ≤ bIdx t m k → (k : Int) ≤ bIdx t m k ∧ bIdx t m k < (k : Int) + m.length
  | [], k, h => by rw [bIdx] at h; omega
  | x :: m, k, h => by
    rw [bIdx] at h ⊢
    rw [List.length_cons]
    split at h
    · rename_i h1
      rw [if_pos h1]
      omega
    · rename_i h1
      rw [if_neg h1]
      have := bIdx_rng t m (k + 1) h
      omega
theorem rowN_mem (l : List Bd) : ∀ (a : List ByteArray) (z : Int), z ∈ rowN l a → 0 ≤ z ∧ z < l.length
  | [], z, h => by rw [rowN] at h; cases h
  | t :: a, z, h => by
    rw [rowN] at h
    rcases List.mem_append.1 h with h | h
    · split at h
      · rename_i h0
        have := bIdx_rng t l 0 h0
        rw [List.mem_singleton] at h
        subst h
        omega
      · cases h
    · exact rowN_mem l a z h
theorem needs_ok (l : List Bd) : okNeeds (needsL l) = true := by
  rw [okNeeds_eq]
  refine List.all_eq_true.2 fun r hr => ?_
  obtain ⟨x, hx, rfl⟩ := List.mem_map.1 hr
  have hl : (needsL l).length = l.length := by simp [needsL]
  unfold okRow
  refine List.all_eq_true.2 fun z hz => ?_
  have := rowN_mem l _ z hz
  rw [hl]
  simp
  omega
theorem needs_sml (l : List Bd) (hl : l.length ≤ 100000) (ht : ∀ x ∈ l, x.e.tot ≤ 1000000) : Sml (needsL l) := ⟨by simp [needsL]; omega, fun r hr => by
  obtain ⟨x, hx, rfl⟩ := List.mem_map.1 hr
  have h1 := rowN_le l (x.e.fr [] [])
  have h2 := Ex.fr_le x.e [] []
  have h3 := ht x hx
  simp at h2
  omega⟩
theorem needs_N (l : List Bd) : ∃ N : List (List Nat), needsL l = N.map zof ∧ Rng N := needs_nat (needs_ok l)
theorem nds_ev (l : List Bd) (hl : l.length ≤ 1000000) (ht : ∀ x ∈ l, x.e.tot ≤ 1000000) : ev (q15 (bds l)) = some (0, [zss (needsL l)]) := Evl.of (by
  rw [h15, ndsP_at ⟨by omega, fun x hx => by have := ht x hx; omega⟩]; rfl)
theorem of_ev (l : List Bd) (hl : l.length ≤ 100000) (ht : ∀ x ∈ l, x.e.tot ≤ 1000000) {N : List (List Nat)} (hN : needsL l = N.map zof) (hr : Rng N) : ev (q16 (bds l)) = some (0, [gOut (groupsR N)]) := by
  have hs := needs_sml l hl ht
  have h15' := nds_ev l (by omega) ht
  rw [hN, zss_zof] at h15'
  rw [hN] at hs
  refine Evl.of ?_
  rw [h16, g16]
  simp [h15', groups_ok hs hr]
/-! The loop over the binds. -/
theorem law_loop (l : List Bd) (hl : l.length ≤ 1000000) (ht : ∀ x ∈ l, x.e.tot ≤ 1000000) : ∀ (m : List Bd) (j : Nat), l.drop j = m →
    ev (q6b0a (iv (j : Int)) (iv l.length) (bds l) (bds l)) = some (0, [bv true]) ∨ ev (q6b0a (iv (j : Int)) (iv l.length) (bds l) (bds l)) = some (1, [bds l])
  | [], j, hd => by
    have hj := drop_nil hd
    refine .inr (Evl.of ?_)
    rw [h6b0a, g6b0a]; simp [hj]
  | x :: m, j, hd => by
    obtain ⟨hk, hj, hd'⟩ := drop_cons hd
    have e0 := wr (n := j) (by omega)
    rw [c1] at e0
    obtain ⟨b, hb⟩ := small_x x.e (by have := ht x (List.mem_of_getElem? hk); omega) 200
    cases b with
    | false =>
      refine .inl (Evl.of ?_)
      rw [h6b0a, g6b0a]; simp [-m_X, hj, ↓X_bds hk, hb]
    | true =>
      have ih := law_loop l hl ht m (j + 1) hd'
      rw [c1] at ih
      rcases ih with ih | ih
      · refine .inl (Evl.of ?_)
        rw [h6b0a, g6b0a]; simp [-m_X, hj, ↓X_bds hk, hb, e0, ih]
      · refine .inr (Evl.of ?_)
        rw [h6b0a, g6b0a]; simp [-m_X, hj, ↓X_bds hk, hb, e0, ih]
/-! What is laid with nil rows may be read without. -/
theorem pr_mix {R : Nat → PV} {M : Nat → Nat → Option Value} {zs : List (List Int)} {v : Value} (h : PR R M (.rows (mixs zs)) v) : PR R M (.rows (iss zs)) v := by
  generalize he : mixs zs = es at h
  have hel : es.length = zs.length := by rw [← he]; simp [mixs]
  have hil : (iss zs).length = zs.length := by simp [iss]
  cases h with
  | rows es a cap g off sz us ha hn hsz hc hr =>
    have h2 := PR.rows (R := R) (M := M) (iss zs) a cap g off sz us (fun hne => ha (fun e => hne (List.eq_nil_of_length_eq_zero (by rw [hil, ← hel, e]; rfl)))) (by omega) (fun i hi => by
      have := hsz i (by omega)
      rw [← this]
      subst he
      simp [iss, mixs]) (fun i hi j hj => hc i (by omega) j hj) (fun i hi j hj => by
      have hj0 : j = 0 := by simp [iss] at hj; omega
      subst hj0
      have hi' : i < zs.length := by omega
      have h5 := hr i (by omega) 0 (by subst he; simp [mixs])
      have h6 : es[i][0]'(by subst he; simp [mixs]) = mix zs[i] := by subst he; simp [mixs]
      have h7 : (iss zs)[i][0]'hj = .rows (ivs zs[i]) := by simp [iss]
      rw [h6] at h5
      rw [h7]
      generalize us i 0 = u at h5 ⊢
      unfold mix at h5
      split at h5
      · rename_i h8
        rw [h8]
        cases h5
        exact PR.nilRow
      · exact h5)
    rw [hil, ← hel] at h2
    exact h2
end Go.Proofs.Ytkfdklocgpgbfaa
