/- What a call leaves is not asked for: rows become plain, no more. -/
import Derived.Test.YtjpjcjnacnlhdaaGreatAbS
namespace Go.Proofs.YtjpjcjnacnlhdaaGreat
open Go.RowKit

mutual
def wl : AV → AV
  | .pv p => .pv (p)
  | .trows _ es => .pv (.rows es)
  | .tsym _ i => .pv (.sym i)
  | .agg l => .agg (wls l)
  | .tup l => .tup (wls l)
  | .fn f l => .fn f (wls l)
  | .ptr i o => .ptr i o
  | .cptr cs => .cptr cs
  | .sl t lo len sz => .sl t lo len sz
  | .mp t => .mp t
  | .ifc t v => .ifc t (wl v)
def wls : List AV → List AV
  | [] => []
  | a :: l => wl a :: wls l
end
theorem wls_eq : ∀ l, wls l = l.map wl
  | [] => by rw [wls]; rfl
  | a :: l => by rw [wls, wls_eq l]; rfl
theorem VR.wl {K : Kn} {a : AV} {v : Value} (h : VR K a v) : VR K (wl a) v := by
  induction h with
  | pv h =>
    rw [YtjpjcjnacnlhdaaGreat.wl]
    exact .pv h
  | trows t es g us hm hn hsz hc hr => rw [YtjpjcjnacnlhdaaGreat.wl]; exact .pv ((VR.trows t es g us hm hn hsz hc hr).toPV rfl)
  | tsym t i es hi h _ => rw [YtjpjcjnacnlhdaaGreat.wl]; exact .pv ((VR.tsym t i es hi h).toPV rfl)
  | ptr i o g hm => rw [YtjpjcjnacnlhdaaGreat.wl]; exact .ptr i o g hm
  | cptr cs g o us hc hr => rw [YtjpjcjnacnlhdaaGreat.wl]; exact .cptr cs g o us hc hr
  | agg l cs hl _ ih => rw [YtjpjcjnacnlhdaaGreat.wl, wls_eq]; exact .agg _ cs (by simpa using hl) (fun i hi hi' => by simpa using ih i (by simpa using hi) hi')
  | tup l cs hl _ ih => rw [YtjpjcjnacnlhdaaGreat.wl, wls_eq]; exact .tup _ cs (by simpa using hl) (fun i hi hi' => by simpa using ih i (by simpa using hi) hi')
  | fn f l cs hl _ ih => rw [YtjpjcjnacnlhdaaGreat.wl, wls_eq]; exact .fn f _ cs (by simpa using hl) (fun i hi hi' => by simpa using ih i (by simpa using hi) hi')
  | sl t lo len sz g cap off a b c d f => rw [YtjpjcjnacnlhdaaGreat.wl]; exact .sl t lo len sz g cap off a b c d f
  | mp t g a => rw [YtjpjcjnacnlhdaaGreat.wl]; exact .mp t g a
  | ifc t _ ih => rw [YtjpjcjnacnlhdaaGreat.wl]; exact .ifc t ih
theorem VL.wl {K : Kn} {l : List AV} {us : List Value} (h : VL K l us) : VL K (wls l) us := by
  rw [wls_eq]
  exact ⟨by simpa using h.1, fun i hi hi' => by simpa using (h.2 i (by simpa using hi) hi').wl⟩
theorem wl_pan (v : AV) : panOf (wl v) = (panOf v).map wl := by
  have key : ∀ a : AV, (∃ m, wl a = .tup m) → ∃ m, a = .tup m := by
    intro a ⟨m, h⟩
    cases a with
    | tup l => exact ⟨l, rfl⟩
    | _ => rw [wl] at h; cases h
  cases hv : panOf v with
  | some x =>
    rw [panOf_some hv, wl, wls, wls, wls, wl, wls]
    rfl
  | none =>
    cases ho : panOf (wl v) with
    | none => rfl
    | some y =>
      exfalso
      have e := panOf_some ho
      obtain ⟨l, rfl⟩ := key v ⟨_, e⟩
      rw [wl] at e
      injection e with e
      match l, e with
      | [], e => rw [wls] at e; cases e
      | [a], e => rw [wls, wls] at e; injection e with _ e; cases e
      | a :: b :: c :: r, e => rw [wls, wls, wls] at e; injection e with _ e; injection e with _ e; cases e
      | [a, b], e =>
        rw [wls, wls, wls] at e
        injection e with e1 e2
        obtain ⟨m, rfl⟩ := key a ⟨_, e1⟩
        rw [wl] at e1
        injection e1 with e1
        cases m with
        | nil => cases hv
        | cons _ _ => rw [wls] at e1; cases e1
theorem EndR.wl {K : Kn} {v : AV} {e : Ending} (h : EndR K v e) : EndR K (YtjpjcjnacnlhdaaGreat.wl v) e :=
  h.map (fun x hx => ⟨YtjpjcjnacnlhdaaGreat.wl x, by rw [wl_pan, hx]; rfl, fun u hu => hu.wl⟩) (fun hn => ⟨by rw [wl_pan, hn]; rfl, fun u hu => hu.wl⟩)
/-- What a call leaves is not asked for. -/
theorem CallOk.forgetL {P : Program} {R : Nat → PV} {f : Nat} {args : List AV} {v : AV} {h' : List AObj} (hc : CallOk R P f args [] v h') (hv : refs (YtjpjcjnacnlhdaaGreat.wl v) = []) : CallOk R P f args [] (YtjpjcjnacnlhdaaGreat.wl v) [] := by
  intro K w us hR W hvl
  refine (hc K w us hR W hvl).mono ?_
  rintro e w' ⟨K', hu, hst⟩
  have hf : finishA (YtjpjcjnacnlhdaaGreat.wl v) h' ([] : List AObj).length = some (YtjpjcjnacnlhdaaGreat.wl v, []) := by
    unfold finishA
    simp [hv]
  obtain ⟨f, K2, h1, h2, h3⟩ := finish_sound W hst hf
  exact ⟨K2, hu.wl.ren h1 h2, h3⟩
end Go.Proofs.YtjpjcjnacnlhdaaGreat
