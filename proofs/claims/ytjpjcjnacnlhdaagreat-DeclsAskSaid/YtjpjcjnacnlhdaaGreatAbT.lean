/- Trees of paths: what a piece of code does, at names; and what it then does at values. -/
import Derived.Test.YtjpjcjnacnlhdaaGreatAbW
namespace Go.Proofs.YtjpjcjnacnlhdaaGreat
open Go.RowKit

/-- A table of calls: function, arguments, heap; answer, heap. -/
structure CE where
  f : Nat
  args : List AV
  h : List AObj
  v : AV
  h' : List AObj
def callTab : List CE → Nat → List AV → List AObj → Option (AV × List AObj)
  | [], _, _, _ => none
  | e :: l, f, args, h => if Nat.beq f e.f && eqBs args e.args && eqHs h e.h then some (e.v, e.h') else callTab l f args h
theorem callTab_ok {R : Nat → PV} {P : Program} : ∀ {l : List CE}, (∀ e ∈ l, CallOk R P e.f e.args e.h e.v e.h') → CallsOk R P (callTab l)
  | [], _, _, _, _, _, _, h => by cases h
  | e :: l, he, f, args, h, v, h', hc => by
    rw [callTab] at hc
    split at hc
    · rename_i hb
      rw [Bool.and_eq_true, Bool.and_eq_true] at hb
      cases hc
      have e1 := Nat.eq_of_beq_eq_true hb.1.1
      have e2 := eqBs_eq _ _ hb.1.2
      have e3 := eqHs_eq hb.2
      subst e1
      subst e2
      subst e3
      exact he e (List.mem_cons_self ..)
    · exact callTab_ok (fun x hx => he x (List.mem_cons_of_mem _ hx)) f args h v h' hc
/-- A table of blocks. -/
structure BE where
  id : Nat
  e : Env
  h : List AObj
  ex : AExit
  e' : Env
  h' : List AObj
def hasB (sl : Env) : Env → Bool
  | [] => true
  | (d, v) :: r => (match look sl d with | some u => eqB u v | none => false) && hasB sl r
theorem hasB_le {sl : Env} : ∀ {e : Env}, hasB sl e = true → EnvLe e sl
  | [], _, d, v, h => by cases h
  | (k, u) :: r, he, d, v, h => by
    rw [hasB, Bool.and_eq_true] at he
    simp only [look] at h
    split at h
    · rename_i hb
      cases h
      have := he.1
      split at this
      · rename_i w hw
        rw [← Nat.eq_of_beq_eq_true hb, hw, eqB_eq _ _ this]
      · cases this
    · exact hasB_le he.2 d v h
def lpTab : List BE → Nat → Env → List AObj → Option (AExit × Env × List AObj)
  | [], _, _, _ => none
  | b :: l, i, sl, h => if Nat.beq i b.id && hasB sl b.e && eqHs h b.h then some (b.ex, b.e', b.h') else lpTab l i sl h
theorem lpTab_ok {R : Nat → PV} {P : Program} {n : Nat} {T : FT} {c : Code} {l : List BE} (hT : T.lp = some (lpTab l)) (hc : ∀ b ∈ l, ∀ c' ∈ subs b.id c, CodeOk R P n (.block b.id c') b.e b.h b.ex b.e' b.h') : LpOk R P n T c := by
  intro lp hlp i c' hm sl h ex1 sl1 h1 hl
  rw [hT] at hlp
  cases hlp
  clear hT
  induction l with
  | nil => cases hl
  | cons b l ih =>
    rw [lpTab] at hl
    split at hl
    · rename_i hb
      rw [Bool.and_eq_true, Bool.and_eq_true] at hb
      cases hl
      have e1 := Nat.eq_of_beq_eq_true hb.1.1
      have e3 := eqHs_eq hb.2
      subst e1
      subst e3
      exact (hc b (List.mem_cons_self ..) c' hm).weak (hasB_le hb.1.2) (fun _ _ h => h)
    · exact ih (fun x hx => hc x (List.mem_cons_of_mem _ hx)) hl
/-! The names in a value. -/
mutual
def namesP : PV → List Nat
  | .sym i => [i]
  | .rows es => namesPss es
  | .lit _ => []
  | .opq _ _ _ => []
  | .rng _ _ => []
  | .any => []
def namesPs : List PV → List Nat
  | [] => []
  | p :: l => namesP p ++ namesPs l
def namesPss : List (List PV) → List Nat
  | [] => []
  | p :: l => namesPs p ++ namesPss l
end
mutual
def namesA : AV → List Nat
  | .pv p => namesP p
  | .trows _ es => namesPss es
  | .tsym _ i => [i]
  | .ptr _ _ => []
  | .cptr cs => namesPs cs
  | .agg l => namesAs l
  | .tup l => namesAs l
  | .fn _ l => namesAs l
  | .sl _ _ _ _ => []
  | .mp _ => []
  | .ifc _ v => namesA v
def namesAs : List AV → List Nat
  | [] => []
  | p :: l => namesA p ++ namesAs l
end
section
variable {R R' : Nat → PV}
mutual
theorem openPV_congr : ∀ (p : PV), (∀ i ∈ namesP p, R i = R' i) → openPV R p = openPV R' p
  | .sym i, h => by rw [openPV, openPV]; exact h i (by simp [namesP])
  | .rows es, h => by rw [openPV, openPV, openPss_congr es (by rw [namesP] at h; exact h)]
  | .lit _, _ => by rw [openPV, openPV]
  | .opq _ _ _, _ => by rw [openPV, openPV]
  | .rng _ _, _ => by rw [openPV, openPV]
  | .any, _ => by rw [openPV, openPV]
theorem openPs_congr : ∀ (l : List PV), (∀ i ∈ namesPs l, R i = R' i) → openPs R l = openPs R' l
  | [], _ => by rw [openPs, openPs]
  | p :: l, h => by
    rw [namesPs] at h
    rw [openPs, openPs, openPV_congr p (fun i hi => h i (List.mem_append_left _ hi)), openPs_congr l (fun i hi => h i (List.mem_append_right _ hi))]
theorem openPss_congr : ∀ (l : List (List PV)), (∀ i ∈ namesPss l, R i = R' i) → openPss R l = openPss R' l
  | [], _ => by rw [openPss, openPss]
  | p :: l, h => by
    rw [namesPss] at h
    rw [openPss, openPss, openPs_congr p (fun i hi => h i (List.mem_append_left _ hi)), openPss_congr l (fun i hi => h i (List.mem_append_right _ hi))]
end
mutual
theorem openAV_congr : ∀ (a : AV), (∀ i ∈ namesA a, R i = R' i) → openAV R a = openAV R' a
  | .pv p, h => by rw [openAV, openAV, openPV_congr p (by rw [namesA] at h; exact h)]
  | .trows t es, h => by rw [openAV, openAV, openPss_congr es (by rw [namesA] at h; exact h)]
  | .tsym t i, h => by rw [openAV, openAV, h i (by simp [namesA])]
  | .ptr _ _, _ => by rw [openAV, openAV]
  | .cptr cs, h => by rw [openAV, openAV, openPs_congr cs (by rw [namesA] at h; exact h)]
  | .agg l, h => by rw [openAV, openAV, openAVs_congr l (by rw [namesA] at h; exact h)]
  | .tup l, h => by rw [openAV, openAV, openAVs_congr l (by rw [namesA] at h; exact h)]
  | .fn _ l, h => by rw [openAV, openAV, openAVs_congr l (by rw [namesA] at h; exact h)]
  | .sl _ _ _ _, _ => by rw [openAV, openAV]
  | .mp _, _ => by rw [openAV, openAV]
  | .ifc _ v, h => by rw [openAV, openAV, openAV_congr v (by rw [namesA] at h; exact h)]
theorem openAVs_congr : ∀ (l : List AV), (∀ i ∈ namesAs l, R i = R' i) → openAVs R l = openAVs R' l
  | [], _ => by rw [openAVs, openAVs]
  | p :: l, h => by
    rw [namesAs] at h
    rw [openAVs, openAVs, openAV_congr p (fun i hi => h i (List.mem_append_left _ hi)), openAVs_congr l (fun i hi => h i (List.mem_append_right _ hi))]
end
end
def namesO : AObj → List Nat
  | .box _ l => namesAs l
  | .tok _ _ n => if n < symBase then [] else [n - symBase]
  | .dead => []
  | .mp _ l => namesAs l
def namesH : List AObj → List Nat
  | [] => []
  | x :: l => namesO x ++ namesH l
def namesE : Env → List Nat
  | [] => []
  | (_, a) :: l => namesA a ++ namesE l
def openH (R : Nat → PV) : List AObj → List AObj
  | [] => []
  | x :: l => openO R x :: openH R l
theorem openH_eq (R : Nat → PV) : ∀ h, openH R h = h.map (openO R)
  | [] => rfl
  | x :: l => by rw [openH, openH_eq R l]; rfl
theorem openO_congr {R R' : Nat → PV} (x : AObj) (h : ∀ i ∈ namesO x, R i = R' i) : openO R x = openO R' x := by
  cases x with
  | box ty l => simp only [openO]; rw [openAVs_congr l h]
  | mp ks l => simp only [openO]; rw [openAVs_congr l h]
  | dead => rfl
  | tok ty sz n =>
    simp only [openO]
    unfold dl
    split
    · rfl
    · rename_i hn
      rw [h (n - symBase) (by rw [namesO, if_neg hn]; exact List.mem_singleton.2 rfl)]
theorem openH_congr {R R' : Nat → PV} : ∀ (h : List AObj), (∀ i ∈ namesH h, R i = R' i) → openH R h = openH R' h
  | [], _ => rfl
  | x :: l, h => by
    rw [namesH] at h
    rw [openH, openH, openO_congr x (fun i hi => h i (List.mem_append_left _ hi)), openH_congr l (fun i hi => h i (List.mem_append_right _ hi))]
theorem openE_congr {R R' : Nat → PV} : ∀ (e : Env), (∀ i ∈ namesE e, R i = R' i) → openE R e = openE R' e
  | [], _ => rfl
  | (d, a) :: l, h => by
    rw [namesE] at h
    rw [openE, openE, openAV_congr a (fun i hi => h i (List.mem_append_left _ hi)), openE_congr l (fun i hi => h i (List.mem_append_right _ hi))]
def namesOp : Option AV → List Nat
  | none => []
  | some a => namesA a
def namesF : SF → List Nat
  | .bin _ _ u v r => namesA u ++ namesA v ++ namesA r
  | .len _ u r => namesA u ++ namesA r
  | .idx _ u i r => namesA u ++ namesA i ++ namesA r
  | .ind _ u i r => namesA u ++ namesA i ++ namesA r
  | .slc _ u lo hi r => namesA u ++ namesOp lo ++ namesOp hi ++ namesA r
  | .conv _ _ u r => namesA u ++ namesA r
  | .un _ u r => namesA u ++ namesA r
  | .app _ s x j => namesA s ++ namesA x ++ [j]
  | .app0 _ s x => namesA s ++ namesA x
  | .names => []
  | .mx _ u v r => namesA u ++ namesA v ++ namesA r
theorem openOp_congr {R R' : Nat → PV} (a : Option AV) (h : ∀ i ∈ namesOp a, R i = R' i) : a.map (openAV R) = a.map (openAV R') := by
  cases a with
  | none => rfl
  | some a => simp only [Option.map_some]; rw [openAV_congr a h]
theorem SF.ok_congr {R R' : Nat → PV} {P : Program} (f : SF) (h : ∀ i ∈ namesF f, R i = R' i) (hf : f.ok R P) : f.ok R' P := by
  cases f with
  | bin b t u v r =>
    simp only [namesF, List.mem_append] at h
    simp only [SF.ok] at hf ⊢
    rwa [← openAV_congr u (fun i hi => h i (.inl (.inl hi))), ← openAV_congr v (fun i hi => h i (.inl (.inr hi))), ← openAV_congr r (fun i hi => h i (.inr hi))]
  | mx mn u v r =>
    simp only [namesF, List.mem_append] at h
    simp only [SF.ok] at hf ⊢
    rwa [← openAV_congr u (fun i hi => h i (.inl (.inl hi))), ← openAV_congr v (fun i hi => h i (.inl (.inr hi))), ← openAV_congr r (fun i hi => h i (.inr hi))]
  | len t u r =>
    simp only [namesF, List.mem_append] at h
    simp only [SF.ok] at hf ⊢
    rwa [← openAV_congr u (fun i hi => h i (.inl hi)), ← openAV_congr r (fun i hi => h i (.inr hi))]
  | idx t u v r =>
    simp only [namesF, List.mem_append] at h
    simp only [SF.ok] at hf ⊢
    rwa [← openAV_congr u (fun i hi => h i (.inl (.inl hi))), ← openAV_congr v (fun i hi => h i (.inl (.inr hi))), ← openAV_congr r (fun i hi => h i (.inr hi))]
  | ind t u v r =>
    simp only [namesF, List.mem_append] at h
    simp only [SF.ok] at hf ⊢
    rwa [← openAV_congr u (fun i hi => h i (.inl (.inl hi))), ← openAV_congr v (fun i hi => h i (.inl (.inr hi))), ← openAV_congr r (fun i hi => h i (.inr hi))]
  | slc t u lo hi r =>
    simp only [namesF, List.mem_append] at h
    simp only [SF.ok] at hf ⊢
    rwa [← openAV_congr u (fun i hi => h i (.inl (.inl (.inl hi)))), ← openOp_congr lo (fun i hi => h i (.inl (.inl (.inr hi)))), ← openOp_congr hi (fun i hi => h i (.inl (.inr hi))), ← openAV_congr r (fun i hi => h i (.inr hi))]
  | conv s d u r =>
    simp only [namesF, List.mem_append] at h
    simp only [SF.ok] at hf ⊢
    rwa [← openAV_congr u (fun i hi => h i (.inl hi)), ← openAV_congr r (fun i hi => h i (.inr hi))]
  | un o u r =>
    simp only [namesF, List.mem_append] at h
    simp only [SF.ok] at hf ⊢
    rwa [← openAV_congr u (fun i hi => h i (.inl hi)), ← openAV_congr r (fun i hi => h i (.inr hi))]
  | app t s x j =>
    simp only [namesF, List.mem_append] at h
    simp only [SF.ok] at hf ⊢
    rwa [← openAV_congr s (fun i hi => h i (.inl (.inl hi))), ← openAV_congr x (fun i hi => h i (.inl (.inr hi))), ← h j (.inr (List.mem_singleton.2 rfl))]
  | app0 t s x =>
    simp only [namesF, List.mem_append] at h
    simp only [SF.ok] at hf ⊢
    rwa [← openAV_congr s (fun i hi => h i (.inl hi)), ← openAV_congr x (fun i hi => h i (.inr hi))]
  | names => trivial
/-! Closed values. -/
section
variable {R : Nat → PV}
mutual
theorem openPV_ns (hR : ∀ i, NS (R i)) : ∀ (p : PV), NS (openPV R p)
  | .sym i => by rw [openPV]; exact hR i
  | .rows es => by rw [openPV]; exact .rows _ (openPss_ns hR es)
  | .lit _ => by rw [openPV]; exact .lit _
  | .opq _ _ _ => by rw [openPV]; exact .opq ..
  | .rng _ _ => by rw [openPV]; exact .rng ..
  | .any => by rw [openPV]; exact .any
theorem openPs_ns (hR : ∀ i, NS (R i)) : ∀ (l : List PV), ∀ p ∈ openPs R l, NS p
  | [], p, hp => by rw [openPs] at hp; cases hp
  | q :: l, p, hp => by
    have h1 := openPV_ns hR q
    have h2 := openPs_ns hR l
    rw [openPs] at hp
    rcases List.mem_cons.1 hp with rfl | hp
    · exact h1
    · exact h2 p hp
theorem openPss_ns (hR : ∀ i, NS (R i)) : ∀ (es : List (List PV)), ∀ c ∈ openPss R es, ∀ p ∈ c, NS p
  | [], c, hc, _, _ => by rw [openPss] at hc; cases hc
  | q :: l, c, hc, p, hp => by
    have h1 := openPs_ns hR q
    have h2 := openPss_ns hR l
    rw [openPss] at hc
    rcases List.mem_cons.1 hc with rfl | hc
    · exact h1 p hp
    · exact h2 c hc p hp
end
end
def isRow : PV → Prop
  | .rows _ => True
  | _ => False
mutual
def TsA (R : Nat → PV) : AV → Prop
  | .tsym _ i => isRow (R i)
  | .agg l => TsAs R l
  | .tup l => TsAs R l
  | .fn _ l => TsAs R l
  | .pv _ => True
  | .trows _ _ => True
  | .ptr _ _ => True
  | .cptr _ => True
  | .sl _ _ _ _ => True
  | .mp _ => True
  | .ifc _ v => TsA R v
def TsAs (R : Nat → PV) : List AV → Prop
  | [] => True
  | a :: l => TsA R a ∧ TsAs R l
end
def TsO (R : Nat → PV) : AObj → Prop
  | .box _ l => TsAs R l
  | .tok _ _ n => dl R n < symBase
  | .dead => True
  | .mp _ l => TsAs R l
def TsH (R : Nat → PV) : List AObj → Prop
  | [] => True
  | x :: l => TsO R x ∧ TsH R l
def TsE (R : Nat → PV) : Env → Prop
  | [] => True
  | (_, a) :: l => TsA R a ∧ TsE R l
section
variable {R : Nat → PV}
mutual
theorem openAV_ns (hR : ∀ i, NS (R i)) : ∀ (a : AV), TsA R a → NSA (openAV R a)
  | .pv p, _ => by rw [openAV]; exact .pv _ (openPV_ns hR p)
  | .trows t es, _ => by rw [openAV]; exact .trows _ _ (openPss_ns hR es)
  | .tsym t i, h => by
    rw [openAV]
    rw [TsA] at h
    split
    · rename_i es he
      have := hR i
      rw [he] at this
      cases this with | rows _ hn => exact .trows _ _ hn
    · rename_i hn
      unfold isRow at h
      split at h
      · rename_i es he; exact absurd he (hn es)
      · exact h.elim
  | .ptr _ _, _ => by rw [openAV]; exact .ptr ..
  | .cptr cs, _ => by rw [openAV]; exact .cptr _ (openPs_ns hR cs)
  | .agg l, h => by rw [openAV]; exact .agg _ (openAVs_ns hR l (by rw [TsA] at h; exact h))
  | .tup l, h => by rw [openAV]; exact .tup _ (openAVs_ns hR l (by rw [TsA] at h; exact h))
  | .fn _ l, h => by rw [openAV]; exact .fn _ _ (openAVs_ns hR l (by rw [TsA] at h; exact h))
  | .sl _ _ _ _, _ => by rw [openAV]; exact .sl ..
  | .mp _, _ => by rw [openAV]; exact .mp ..
  | .ifc _ v, h => by rw [openAV]; exact .ifc _ _ (openAV_ns hR v (by rw [TsA] at h; exact h))
theorem openAVs_ns (hR : ∀ i, NS (R i)) : ∀ (l : List AV), TsAs R l → ∀ a ∈ openAVs R l, NSA a
  | [], _, a, ha => by rw [openAVs] at ha; cases ha
  | b :: l, h, a, ha => by
    rw [TsAs] at h
    have h1 := openAV_ns hR b h.1
    have h2 := openAVs_ns hR l h.2
    rw [openAVs] at ha
    rcases List.mem_cons.1 ha with rfl | ha
    · exact h1
    · exact h2 a ha
end
theorem openO_ns (hR : ∀ i, NS (R i)) (x : AObj) (h : TsO R x) : NSO (openO R x) := by
  cases x with
  | box ty l => exact .box _ _ (openAVs_ns hR l h)
  | tok ty sz n => exact .tok _ _ _ h
  | dead => exact .dead
  | mp ks l => exact .mp _ _ (openAVs_ns hR l h)
theorem openH_ns (hR : ∀ i, NS (R i)) : ∀ (l : List AObj), TsH R l → ∀ x ∈ openH R l, NSO x
  | [], _, x, hx => by cases hx
  | y :: l, h, x, hx => by
    rcases List.mem_cons.1 hx with rfl | hx
    · exact openO_ns hR y h.1
    · exact openH_ns hR l h.2 x hx
theorem openE_ns (hR : ∀ i, NS (R i)) : ∀ (e : Env), TsE R e → NSE (openE R e)
  | [], _, x, hx => by cases hx
  | (d, a) :: l, h, x, hx => by
    rcases List.mem_cons.1 hx with rfl | hx
    · exact openAV_ns hR a h.1
    · exact openE_ns hR l h.2 x hx
end
end Go.Proofs.YtjpjcjnacnlhdaaGreat
