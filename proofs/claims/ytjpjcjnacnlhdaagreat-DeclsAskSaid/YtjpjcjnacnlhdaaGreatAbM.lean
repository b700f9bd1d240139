/- Rows that are written, and maps: the operations on them ('qopM', 'eopM'), and that these are right. -/
import Derived.Test.YtjpjcjnacnlhdaaGreatAb13
import Derived.Laws.MakeOwn
import Derived.MapKept
import Derived.Lib.SliceRun
namespace Go.Proofs.YtjpjcjnacnlhdaaGreat
open Go.RowKit

/-- The slice types whose rows are written. -/
def mutT : TypeId → Bool := fun _ => false

def boundM (ρ : Operand → Option AV) (r len : Nat) : Option Operand → Bool
  | none => true
  | some x => match ρ x with
    | some v => match intV v with
      | some n => decide (0 ≤ n ∧ r ≤ n.toNat ∧ n.toNat ≤ len)
      | none => false
    | none => false
def qmIA (P : Program) (ρ : Operand → Option AV) (t : TypeId) (x i : Operand) : Option (AV × Option Nat) := match ρ x with
  | some (.sl o lo len sz) => match ρ i, P.underlying t with
    | some v, some (.slice e) => match intV v with
      | some n => if 0 ≤ n ∧ n.toNat < len ∧ szA P e = some sz then some (.ptr o (lo * sz + n.toNat * sz), none) else none
      | none => none
    | _, _ => none
  | _ => none
def qmSlice (P : Program) (ρ : Operand → Option AV) (t : TypeId) (x : Operand) (lo hi mx : Option Operand) : Option (AV × Option Nat) := match ρ x with
  | some (.sl o b len sz) => match P.underlying t, boundA ρ 0 lo, boundA ρ len hi with
    | some (.slice e), some l, some r => if l ≤ r ∧ r ≤ len ∧ szA P e = some sz ∧ boundM ρ r len mx = true ∧ (mx.isSome = true → hi.isSome = true) then some (.sl o (b + l) (r - l) sz, none) else none
    | _, _, _ => none
  | _ => none
def qmLen (P : Program) (ρ : Operand → Option AV) (args : Array Operand) (ts : Array TypeId) : Option (AV × Option Nat) := match args.toList, ts.toList with
  | [x], [t] => match ρ x, P.underlying t with
    | some (.sl _ _ len _), some (.slice _) => some (.pv (.lit (.int .i64 len)), none)
    | _, _ => none
  | _, _ => none
def qmCap (P : Program) (ρ : Operand → Option AV) (args : Array Operand) (ts : Array TypeId) : Option (AV × Option Nat) := match args.toList, ts.toList with
  | [x], [t] => match ρ x, P.underlying t with
    | some (.pv (.lit (.slice none 0 0))), some (.slice _) => some (.pv (.lit (.int .i64 0)), none)
    | _, _ => none
  | _, _ => none
def isEq : BinOp → Option Bool
  | .eql => some false
  | .neq => some true
  | _ => none
def qmBin (P : Program) (ρ : Operand → Option AV) (b : BinOp) (t : TypeId) (x y : Operand) : Option (AV × Option Nat) := match ρ x, ρ y with
  | some (.mp _), some (.pv (.lit (.map none))) => match isEq b, P.underlying t with
    | some r, some (.map _ _) => some (.pv (.lit (.bool r)), none)
    | _, _ => none
  | some (.sl _ _ _ _), some (.pv (.lit (.slice none 0 0))) => match isEq b, P.underlying t with
    | some r, some (.slice _) => some (.pv (.lit (.bool r)), none)
    | _, _ => none
  | some (.ifc _ _), some (.pv (.lit .nilIface)) => match isEq b, P.underlying t with
    | some r, some (.interface _) => some (.pv (.lit (.bool r)), none)
    | _, _ => none
  | _, _ => none
/-- Where a key stands. -/
def findK (kind : TypeDesc) (k : Value) : List Value → Option (Option Nat)
  | [] => some none
  | e :: es => match Instr.sameNow kind k e with
    | some true => some (some 0)
    | some false => match findK kind k es with
      | some (some j) => some (some (j + 1))
      | some none => some none
      | none => none
    | none => none
def keyOk : TypeDesc → Value → Bool
  | .int k, .int k' _ => decide (k' = k)
  | .string, .string _ => true
  | _, _ => false
/-- Any key: one of a struct of texts, too. -/
def keyFit (P : Program) (kt : TypeId) (d : TypeDesc) (key : Value) : Bool := match keyOk d key with
  | true => true
  | false => (pureRun P (Instr.checkKey true 10000 kt key)).isSome && (pureRun P (Instr.checkKey false 10000 kt key)).isSome
def findP (P : Program) (kt : TypeId) (k : Value) : List Value → Option (Option Nat)
  | [] => some none
  | e :: es => match pureRun P (Op.equal kt k e) with
    | some true => some (some 0)
    | some false => match findP P kt k es with
      | some (some j) => some (some (j + 1))
      | some none => some none
      | none => none
    | none => none
def findKP (P : Program) (kt : TypeId) (d : TypeDesc) (k : Value) (ks : List Value) : Option (Option Nat) := match findK d k ks with
  | some r => some r
  | none => findP P kt k ks
def zeroV (P : Program) (t : TypeId) : Option AV := match P.info? t with
  | some i => match i.zero with
    | some (.agg cs) => if cs.toList.all plainV then some (.agg (cs.toList.map fun v => .pv (.lit v))) else none
    | some v => ofVal v
    | none => none
  | none => none
def qmLook (P : Program) (ρ : Operand → Option AV) (h : List AObj) (t : TypeId) (m k : Operand) (ok : Bool) : Option (AV × Option Nat) := match ρ m with
  | some (.mp i) => match h[i]?, (ρ k).bind AV.val?, P.underlying t with
    | some (.mp ks vs), some key, some (.map kt et) => match P.underlying kt with
      | some d => if keyFit P kt d key then match findKP P kt d key ks with
          | some (some j) => match vs[j]? with
            | some v => some (if ok then .tup [v, .pv (.lit (.bool true))] else v, some i)
            | none => none
          | some none => match zeroV P et with
            | some z => some (if ok then .tup [z, .pv (.lit (.bool false))] else z, some i)
            | none => none
          | none => none
        else none
      | none => none
    | _, _, _ => none
  | _ => none
def qmIfc (P : Program) (ρ : Operand → Option AV) (t : TypeId) (x : Operand) : Option (AV × Option Nat) := match ρ x, P.underlying t with
  | some _, some (.interface _) => none
  | some v, some _ => some (.ifc t v, none)
  | _, _ => none
def qmAssert (P : Program) (ρ : Operand → Option AV) (x : Operand) (t : TypeId) (ok : Bool) : Option (AV × Option Nat) := match P.underlying t with
  | some (.interface _) => none
  | some _ => match ρ x with
    | some (.ifc t' v) => if t' = t then some (if ok then .tup [v, .pv (.lit (.bool true))] else v, none) else if ok then match zeroV P t with
        | some z => some (.tup [z, .pv (.lit (.bool false))], none)
        | none => none
      else none
    | _ => none
  | none => none
def qopM (P : Program) (op : Op) (ρ : Operand → Option AV) (h : List AObj) : Option (AV × Option Nat) := match op with
  | .indexAddr t x i => qmIA P ρ t x i
  | .slice t x lo hi mx => qmSlice P ρ t x lo hi mx
  | .binOp b t x y _ => qmBin P ρ b t x y
  | .lookup t m k ok => qmLook P ρ h t m k ok
  | .makeInterface t x => qmIfc P ρ t x
  | .typeAssert x _ t ok => qmAssert P ρ x t ok
  | .call ⟨.builtin .len, args, ts⟩ => qmLen P ρ args ts
  | .call ⟨.builtin .cap, args, ts⟩ => qmCap P ρ args ts
  | _ => none

section
variable {P : Program} {o : Oper} {ρ : Operand → Value} {ρA : Operand → Option AV} {K : Kn} {h : List AObj} {w : World}

theorem qmIA_sound (hρ : ∀ x v, ρA x = some v → VR K v (ρ x)) {t : TypeId} {x i : Operand} (ho : o.op = .indexAddr t x i) {v : AV} {dep : Option Nat} (hq : qmIA P ρA t x i = some (v, dep)) : Yld P o ρ K w v dep := by
  unfold qmIA at hq
  split at hq
  · rename_i ob lo len sz hx
    split at hq
    · rename_i iv e hi hu
      split at hq
      · rename_i n hn
        split at hq
        · rename_i hc
          cases hq
          obtain ⟨k, hk⟩ := intV_sound (hρ i _ hi) hn
          have hxv := hρ x _ hx
          generalize hxe : ρ x = xv at hxv
          cases hxv with
          | sl _ _ _ _ g cap off hm he hl hz hof =>
            have hof := hof (by omega)
            subst hof
            have hlt : n < (len : Int) := by omega
            refine .of (.pointer (some ⟨g, lo * sz + n.toNat * sz, none⟩)) (.ptr ob _ g hm) (fun w' => ?_)
            simp [execOp, ho, hxe, hk, Instr.indexAt, asIntOf, run_underlying hu, hc.1, hlt, szA_run hc.2.2, Addr.add_lit]
        · cases hq
      · cases hq
    · cases hq
  · cases hq
theorem boundM_sound (hρ : ∀ x v, ρA x = some v → VR K v (ρ x)) {r len : Nat} {mx : Option Operand} (h : boundM ρA r len mx = true) : mx = none ∨ ∃ x k n, mx = some x ∧ ρ x = .int k ((n : Nat) : Int) ∧ r ≤ n ∧ n ≤ len := by
  unfold boundM at h
  split at h
  · exact .inl rfl
  · rename_i x
    split at h
    · rename_i v hv
      split at h
      · rename_i n hn
        have hh := of_decide_eq_true h
        obtain ⟨k, hk⟩ := intV_sound (hρ x _ hv) hn
        refine .inr ⟨x, k, n.toNat, rfl, ?_, hh.2.1, hh.2.2⟩
        rw [hk]; congr 1; omega
      · cases h
    · cases h
theorem qmSlice_sound (hρ : ∀ x v, ρA x = some v → VR K v (ρ x)) {t : TypeId} {x : Operand} {lo hi mx : Option Operand} (ho : o.op = .slice t x lo hi mx) {v : AV} {dep : Option Nat} (hq : qmSlice P ρA t x lo hi mx = some (v, dep)) : Yld P o ρ K w v dep := by
  unfold qmSlice at hq
  split at hq
  · rename_i ob b len sz hx
    split at hq
    · rename_i e l r hu hl hr
      split at hq
      · rename_i hc
        cases hq
        obtain ⟨h1, h2, h3, h4, h5⟩ := hc
        have hxv := hρ x _ hx
        generalize hxe : ρ x = xv at hxv
        cases hxv with
        | sl _ _ _ _ g cap off hm he hlc hz hof =>
          have key : ∃ m, r ≤ m ∧ m ≤ cap ∧ ∀ w' : World, (Instr.sliceBounds true len cap (lo.map ρ) (hi.map ρ) (mx.map ρ)).run P w' = .ok (l, r, m) w' := by
            rcases boundM_sound hρ h4 with rfl | ⟨y, k, n, rfl, hy, hn1, hn2⟩
            · refine ⟨cap, by omega, Nat.le_refl _, fun w' => ?_⟩
              have h1' : ∀ k c, (Instr.sliceBound (.int k (r : Int)) cap c).run P w' = .ok r w' := fun k c => run_sliceBound w' k r cap c (by omega)
              have h2' : ∀ k c, (Instr.sliceBound (.int k (l : Int)) r c).run P w' = .ok l w' := fun k c => run_sliceBound w' k l r c h1
              rcases boundA_sound hρ hr with ⟨rfl, rfl⟩ | ⟨y, k, rfl, hy⟩
              · rcases boundA_sound hρ hl with ⟨rfl, rfl⟩ | ⟨z, k', rfl, hz⟩
                · simp [Instr.sliceBounds]
                · simp [Instr.sliceBounds, hz, h2']
              · rcases boundA_sound hρ hl with ⟨rfl, rfl⟩ | ⟨z, k', rfl, hz⟩
                · simp [Instr.sliceBounds, hy, h1']
                · simp [Instr.sliceBounds, hy, hz, h1', h2']
            · refine ⟨n, hn1, by omega, fun w' => ?_⟩
              have h0' : ∀ k c, (Instr.sliceBound (.int k (n : Int)) cap c).run P w' = .ok n w' := fun k c => run_sliceBound w' k n cap c (by omega)
              have h1' : ∀ k c, (Instr.sliceBound (.int k (r : Int)) n c).run P w' = .ok r w' := fun k c => run_sliceBound w' k r n c (by omega)
              have h2' : ∀ k c, (Instr.sliceBound (.int k (l : Int)) r c).run P w' = .ok l w' := fun k c => run_sliceBound w' k l r c h1
              obtain ⟨y2, k2, rfl, hy2⟩ : ∃ y k, hi = some y ∧ ρ y = .int k (r : Int) := by
                rcases boundA_sound hρ hr with ⟨e1, _⟩ | hh
                · rw [e1] at h5; exact absurd (h5 rfl) (by simp)
                · exact hh
              rcases boundA_sound hρ hl with ⟨rfl, rfl⟩ | ⟨z, k', rfl, hz⟩
              · simp [Instr.sliceBounds, hy, hy2, h0', h1']
              · simp [Instr.sliceBounds, hy, hy2, hz, h0', h1', h2']
          obtain ⟨m, hm1, hm2, hB⟩ := key
          refine .of (.slice (if m = l then some ⟨g, off, none⟩ else (some ⟨g, off, none⟩ : Option Addr).map (·.add (l * sz))) (r - l) (m - l)) ?_ (fun w' => ?_)
          · by_cases hml : m = l
            · rw [if_pos hml]
              exact .sl ob (b + l) (r - l) sz g (m - l) off hm he (by omega) (by omega) (fun h => by omega)
            · rw [if_neg hml, Option.map_some, Addr.add_lit]
              refine .sl ob (b + l) (r - l) sz g (m - l) (off + l * sz) hm he (by omega) (by omega) (fun h => ?_)
              rw [hof (by omega), Nat.add_mul]
          · simp [execOp, ho, hxe, Instr.sliceAt, Instr.slice, run_underlying hu, hB, szA_run h3]
      · cases hq
    · cases hq
  · cases hq
theorem qmLen_sound (hρ : ∀ x v, ρA x = some v → VR K v (ρ x)) {args : Array Operand} {ts : Array TypeId} (ho : o.op = .call ⟨.builtin .len, args, ts⟩) {v : AV} {dep : Option Nat} (hq : qmLen P ρA args ts = some (v, dep)) : Yld P o ρ K w v dep := by
  unfold qmLen at hq
  split at hq
  · rename_i x t ha hts
    have e1 : args = #[x] := by rw [← Array.toArray_toList (xs := args), ha]
    have e2 : ts = #[t] := by rw [← Array.toArray_toList (xs := ts), hts]
    subst e1
    subst e2
    split at hq
    · rename_i ob lo len sz e hx hu
      cases hq
      have hxv := hρ x _ hx
      generalize hxe : ρ x = xv at hxv
      cases hxv with
      | sl _ _ _ _ g cap off hm he hlc hz hof =>
        refine .of (.int .i64 len) (.pv (.lit _ rfl)) (fun w' => ?_)
        simp [execOp, ho, resolve, invoke, builtin, hxe, Builtin.len_, run_underlying hu, goInt]
    · cases hq
  · cases hq
theorem qmCap_sound (hρ : ∀ x v, ρA x = some v → VR K v (ρ x)) {args : Array Operand} {ts : Array TypeId} (ho : o.op = .call ⟨.builtin .cap, args, ts⟩) {v : AV} {dep : Option Nat} (hq : qmCap P ρA args ts = some (v, dep)) : Yld P o ρ K w v dep := by
  unfold qmCap at hq
  split at hq
  · rename_i x t ha hts
    have e1 : args = #[x] := by rw [← Array.toArray_toList (xs := args), ha]
    have e2 : ts = #[t] := by rw [← Array.toArray_toList (xs := ts), hts]
    subst e1
    subst e2
    split at hq
    · rename_i e hx hu
      cases hq
      have hxe : ρ x = .slice none 0 0 := val_eq (hρ x _ hx) rfl
      refine .of (.int .i64 0) (.pv (.lit _ rfl)) (fun w' => ?_)
      simp [execOp, ho, resolve, invoke, builtin, hxe, Builtin.cap_, run_underlying hu, goInt]
    · cases hq
  · cases hq
/-- What is there is not nil. -/
def NotNil (P : Program) (t : TypeId) (p q : Value) : Prop := (∀ w' : World, (Op.equal t p q).run P w' = .ok false w') ∧ (∀ b x y (w' : World), (eqGuard b t x y p q).run P w' = .ok () w') ∧ (binOp .eql t p q = do pure (.bool (← Op.equal t p q))) ∧ (binOp .neq t p q = do pure (.bool (!(← Op.equal t p q))))
theorem equalIn_map {t kt et : TypeId} (hu : P.underlying t = some (.map kt et)) (g d : Nat) (w' : World) : (Op.equalIn (d + 1) t (.map (some g)) (.map none)).run P w' = .ok false w' := by simp [Op.equalIn, run_underlying hu]
theorem equalIn_slice {t e : TypeId} (hu : P.underlying t = some (.slice e)) (a : Addr) (n c d : Nat) (w' : World) : (Op.equalIn (d + 1) t (.slice (some a) n c) (.slice none 0 0)).run P w' = .ok false w' := by simp [Op.equalIn, run_underlying hu]
theorem notNil_map {t kt et : TypeId} (hu : P.underlying t = some (.map kt et)) (g : Nat) : NotNil P t (.map (some g)) (.map none) :=
  ⟨fun w' => equalIn_map hu g 9999 w', fun b x y w' => by cases b <;> simp [eqGuard], rfl, rfl⟩
theorem notNil_slice {t e : TypeId} (hu : P.underlying t = some (.slice e)) (a : Addr) (n c : Nat) : NotNil P t (.slice (some a) n c) (.slice none 0 0) :=
  ⟨fun w' => equalIn_slice hu a n c 9999 w', fun b x y w' => by cases b <;> simp [eqGuard], rfl, rfl⟩
theorem equalIn_iface {t : TypeId} {m : Array (String × TypeId)} (hu : P.underlying t = some (.interface m)) (a : TypeId) (u : Value) (d : Nat) (w' : World) : (Op.equalIn (d + 1) t (.iface a u) .nilIface).run P w' = .ok false w' := by simp [Op.equalIn, run_underlying hu]
theorem notNil_iface {t : TypeId} {m : Array (String × TypeId)} (hu : P.underlying t = some (.interface m)) (a : TypeId) (u : Value) : NotNil P t (.iface a u) .nilIface :=
  ⟨fun w' => equalIn_iface hu a u 9999 w', fun b x y w' => by cases b <;> simp [eqGuard], rfl, rfl⟩
theorem NotNil.run {t : TypeId} {p q : Value} (hn : NotNil P t p q) {b : BinOp} {r : Bool} (hb : isEq b = some r) (x y : Operand) (w' : World) : (do eqGuard b t x y p q; binOp b t p q : Sem Value).run P w' = .ok (.bool r) w' := by
  obtain ⟨h1, h2, h3, h4⟩ := hn
  unfold isEq at hb
  split at hb
  · cases hb
    rw [h3]
    simp only [Sem.run_bind, h2, Result.andThen_ok, h1, Sem.run_pure]
  · cases hb
    rw [h4]
    simp only [Sem.run_bind, h2, Result.andThen_ok, h1, Sem.run_pure, Bool.not_false]
  · cases hb
theorem qmBin_sound (hρ : ∀ x v, ρA x = some v → VR K v (ρ x)) {b : BinOp} {t : TypeId} {x y : Operand} {c : TypeId} (ho : o.op = .binOp b t x y c) {v : AV} {dep : Option Nat} (hq : qmBin P ρA b t x y = some (v, dep)) : Yld P o ρ K w v dep := by
  unfold qmBin at hq
  split at hq
  · rename_i i hx hy
    split at hq
    · rename_i r kt et hb hu
      cases hq
      have hxv := hρ x _ hx
      have hyv : ρ y = .map none := val_eq (hρ y _ hy) rfl
      generalize hxe : ρ x = xv at hxv
      cases hxv with
      | mp _ g hm =>
        refine .of (.bool r) (.pv (.lit _ rfl)) (fun w' => ?_)
        simp only [execOp, ho]
        rw [Sem.run_bind, hxe, hyv, (notNil_map hu g).run hb x y w']
        rfl
    · cases hq
  · rename_i i lo len sz hx hy
    split at hq
    · rename_i r kt hb hu
      cases hq
      have hxv := hρ x _ hx
      have hyv : ρ y = .slice none 0 0 := val_eq (hρ y _ hy) rfl
      generalize hxe : ρ x = xv at hxv
      cases hxv with
      | sl _ _ _ _ g cap off hm he hlc hz hof =>
        refine .of (.bool r) (.pv (.lit _ rfl)) (fun w' => ?_)
        simp only [execOp, ho]
        rw [Sem.run_bind, hxe, hyv, (notNil_slice hu _ _ _).run hb x y w']
        rfl
    · cases hq
  · rename_i i v0 hx hy
    split at hq
    · rename_i r ms hb hu
      cases hq
      have hxv := hρ x _ hx
      have hyv : ρ y = .nilIface := val_eq (hρ y _ hy) rfl
      generalize hxe : ρ x = xv at hxv
      cases hxv with
      | ifc _ hz =>
        refine .of (.bool r) (.pv (.lit _ rfl)) (fun w' => ?_)
        simp only [execOp, ho]
        rw [Sem.run_bind, hxe, hyv, (notNil_iface hu _ _).run hb x y w']
        rfl
    · cases hq
  · cases hq
theorem findK_spec {d : TypeDesc} {key : Value} : ∀ (es : List MapEntry) (i : Nat) (r : Option Nat), findK d key (es.map (·.key)) = some r → Instr.findNow d key es i = some (r.bind fun j => es[j]?.map fun e => (i + j, e.val)) ∧ (∀ j, r = some j → j < es.length)
  | [], i, r, h => by cases h; exact ⟨rfl, fun j h => by cases h⟩
  | e :: es, i, r, h => by
    simp only [List.map_cons, findK] at h
    unfold Instr.findNow
    split at h
    · rename_i hs
      cases h
      rw [hs]
      exact ⟨rfl, fun j hj => by cases hj; simp⟩
    · rename_i hs
      rw [hs]
      split at h
      · rename_i j hj
        cases h
        obtain ⟨h1, h2⟩ := findK_spec es (i + 1) _ hj
        refine ⟨?_, fun k hk => by cases hk; have := h2 j rfl; simpa using this⟩
        simp only [h1]
        simp only [Option.bind_some, List.getElem?_cons_succ]
        congr 2
        funext e'
        congr 1
        omega
      · rename_i hj
        cases h
        obtain ⟨h1, h2⟩ := findK_spec es (i + 1) _ hj
        exact ⟨by simp only [h1]; rfl, fun k hk => by cases hk⟩
      · cases h
    · cases h
theorem findK_none {d : TypeDesc} {key : Value} : ∀ (es : List MapEntry) (i : Nat), findK d key (es.map (·.key)) = none → Instr.findNow d key es i = none
  | [], i, h => by cases h
  | e :: es, i, h => by
    simp only [List.map_cons, findK] at h
    unfold Instr.findNow
    split at h
    · cases h
    · rename_i hs
      rw [hs]
      split at h
      · cases h
      · cases h
      · rename_i hn
        exact findK_none es (i + 1) hn
    · rename_i hs
      rw [hs]
theorem findP_spec {kt : TypeId} {key : Value} : ∀ (es : List MapEntry) (i : Nat) (r : Option Nat), findP P kt key (es.map (·.key)) = some r → (∀ w : World, (Instr.findAsking kt key es i).run P w = .ok (r.bind fun j => es[j]?.map fun e => (i + j, e.val)) w) ∧ (∀ j, r = some j → j < es.length)
  | [], i, r, h => by cases h; exact ⟨fun w => rfl, fun j h => by cases h⟩
  | e :: es, i, r, h => by
    simp only [List.map_cons, findP] at h
    split at h
    · rename_i hs
      cases h
      refine ⟨fun w => ?_, fun j hj => by cases hj; simp⟩
      rw [Instr.findAsking, Sem.run_bind, pureRun_run hs w]
      rfl
    · rename_i hs
      split at h
      · rename_i j hj
        cases h
        obtain ⟨h1, h2⟩ := findP_spec es (i + 1) _ hj
        refine ⟨fun w => ?_, fun k hk => by cases hk; have := h2 j rfl; simpa using this⟩
        rw [Instr.findAsking, Sem.run_bind, pureRun_run hs w]
        simp only [Result.andThen_ok, Bool.false_eq_true, if_false, h1]
        simp only [Option.bind_some, List.getElem?_cons_succ]
        congr 2
        funext e'
        congr 1
        omega
      · rename_i hj
        cases h
        obtain ⟨h1, h2⟩ := findP_spec es (i + 1) _ hj
        refine ⟨fun w => ?_, fun k hk => by cases hk⟩
        rw [Instr.findAsking, Sem.run_bind, pureRun_run hs w]
        simp only [Result.andThen_ok, Bool.false_eq_true, if_false, h1]
        rfl
      · cases h
    · cases h
theorem findKP_spec {kt : TypeId} {d : TypeDesc} {key : Value} (hd : P.underlying kt = some d) (es : List MapEntry) (r : Option Nat) (h : findKP P kt d key (es.map (·.key)) = some r) :
    (∀ w : World, (Instr.findKey kt key es).run P w = .ok (r.bind fun j => es[j]?.map fun e => (j, e.val)) w) ∧ (∀ j, r = some j → j < es.length) := by
  unfold findKP at h
  split at h
  · rename_i r' hr
    cases h
    obtain ⟨h1, h2⟩ := findK_spec es 0 _ hr
    refine ⟨fun w => ?_, h2⟩
    rw [MapKept.run_findKey hd h1]
    simp
  · rename_i hn
    obtain ⟨h1, h2⟩ := findP_spec es 0 _ h
    refine ⟨fun w => ?_, h2⟩
    unfold Instr.findKey
    rw [Sem.run_bind, run_underlying hd]
    simp only [Result.andThen_ok, findK_none es 0 hn, h1]
    simp
theorem keyOk_is {d : TypeDesc} {k : Value} (h : keyOk d k = true) : MapKept.IsKey d k := by
  unfold keyOk at h
  split at h
  · simpa [MapKept.IsKey] using h
  · simp [MapKept.IsKey]
  · cases h
theorem keyFit_run {kt : TypeId} {d : TypeDesc} {key : Value} (hd : P.underlying kt = some d) (h : keyFit P kt d key = true) (e : Bool) (w' : World) : (Instr.checkKey e 10000 kt key).run P w' = .ok () w' := by
  unfold keyFit at h
  split at h
  · rename_i hk
    exact MapKept.run_checkKey hd (keyOk_is hk) e 9999
  · rw [Bool.and_eq_true] at h
    obtain ⟨⟨⟩, h1⟩ := Option.isSome_iff_exists.1 h.1
    obtain ⟨⟨⟩, h2⟩ := Option.isSome_iff_exists.1 h.2
    cases e
    · exact pureRun_run h2 w'
    · exact pureRun_run h1 w'
theorem zeroV_sound {t : TypeId} {z : AV} (h : zeroV P t = some z) : ∃ u, VR K z u ∧ ∀ w' : World, (zeroValue t).run P w' = .ok u w' := by
  unfold zeroV at h
  split at h
  · rename_i i hi
    split at h
    · rename_i cs hz
      split at h
      · rename_i hp
        cases h
        refine ⟨.agg cs, ?_, fun w' => by simp [zeroValue, typeInfo, hi, hz]⟩
        have := VR.agg (K := K) (cs.toList.map fun v => .pv (.lit v)) cs.toList (by simp) (fun k hk hk' => by
          simp only [List.getElem_map]
          rw [List.all_eq_true] at hp
          exact .pv (.lit _ (hp _ (List.getElem_mem _))))
        simpa using this
      · cases h
    · rename_i v _ hz
      exact ⟨v, ofVal_sound h, fun w' => by simp [zeroValue, typeInfo, hi, hz]⟩
    · cases h
  · cases h
theorem qmLook_sound (H : WR K h w) (hρ : ∀ x v, ρA x = some v → VR K v (ρ x)) {t : TypeId} {m k : Operand} {ok : Bool} (ho : o.op = .lookup t m k ok) {v : AV} {dep : Option Nat} (hq : qmLook P ρA h t m k ok = some (v, dep)) : Yld P o ρ K w v dep := by
  unfold qmLook at hq
  split at hq
  · rename_i i hm
    split at hq
    · rename_i ks vs key kt et hi hk hu
      split at hq
      · rename_i d hd
        split at hq
        · rename_i hko
          obtain ⟨ka, hka, hkv⟩ := Option.bind_eq_some_iff.1 hk
          have hkey : ρ k = key := val_eq (hρ k _ hka) hkv
          have hmv := hρ m _ hm
          generalize hme : ρ m = mv at hmv
          cases hmv with
          | mp _ g hg =>
            obtain ⟨g', ents, clock, hg', hw, hks, hvs⟩ := H.map i ks vs hi
            rw [hg] at hg'
            cases hg'
            have hck : ∀ (e : Bool) (w' : World), (Instr.checkKey e 10000 kt key).run P w' = .ok () w' := fun e w' => keyFit_run hd hko e w'
            split at hq
            · rename_i j hj
              rw [← hks] at hj
              obtain ⟨h1, h2⟩ := findKP_spec hd ents.toList _ hj
              split at hq
              · rename_i x hx
                cases hq
                obtain ⟨u, hu1, hu2⟩ := hvs.at_ hx
                rw [List.getElem?_map] at hu1
                obtain ⟨e, he, rfl⟩ := map_some' hu1
                simp only [Option.bind_some, he] at h1
                refine ⟨if ok then .tuple #[e.val, .bool true] else e.val, ?_, fun w' _ hdep => ?_⟩
                · cases ok
                  · exact hu2
                  · exact .tup [x, .pv (.lit (.bool true))] [e.val, .bool true] rfl (fun n hn hn' => by
                      match n, hn with
                      | 0, _ => exact hu2
                      | 1, _ => exact .pv (.lit _ rfl))
                · have hb := (hdep i rfl g hg).trans hw
                  have hf := h1 w'
                  simp only [execOp, ho, hme, hkey, Instr.lookup, Sem.run_bind, run_underlying hu, Result.andThen_ok, MapKept.run_getObj_map hb, Sem.run_pure, hck, hf, Option.map_some]
              · cases hq
            · rename_i hj
              rw [← hks] at hj
              obtain ⟨h1, h2⟩ := findKP_spec hd ents.toList _ hj
              split at hq
              · rename_i z hz
                cases hq
                obtain ⟨u, hu1, hu2⟩ := zeroV_sound (K := K) hz
                simp only [Option.bind_none] at h1
                refine ⟨if ok then .tuple #[u, .bool false] else u, ?_, fun w' _ hdep => ?_⟩
                · cases ok
                  · exact hu1
                  · exact .tup [z, .pv (.lit (.bool false))] [u, .bool false] rfl (fun n hn hn' => by
                      match n, hn with
                      | 0, _ => exact hu1
                      | 1, _ => exact .pv (.lit _ rfl))
                · have hb := (hdep i rfl g hg).trans hw
                  have hf := h1 w'
                  simp only [execOp, ho, hme, hkey, Instr.lookup, Sem.run_bind, run_underlying hu, Result.andThen_ok, MapKept.run_getObj_map hb, Sem.run_pure, hck, hf, hu2]
              · cases hq
            · cases hq
        · cases hq
      · cases hq
    · cases hq
  · cases hq
theorem qmIfc_sound (hρ : ∀ x v, ρA x = some v → VR K v (ρ x)) {t : TypeId} {x : Operand} (ho : o.op = .makeInterface t x) {v : AV} {dep : Option Nat} (hq : qmIfc P ρA t x = some (v, dep)) : Yld P o ρ K w v dep := by
  unfold qmIfc at hq
  split at hq
  · cases hq
  · rename_i v0 d hni hx hu
    cases hq
    refine .of (.iface t (ρ x)) (.ifc t (hρ x _ hx)) (fun w' => ?_)
    have hr : (Instr.makeInterface t (ρ x)).run P w' = .ok (.iface t (ρ x)) w' := by
      unfold Instr.makeInterface
      rw [Sem.run_bind, run_underlying hu]
      simp only [Result.andThen_ok]
      rfl
    simp only [execOp, ho, Sem.run_bind, hr, Result.andThen_ok, Sem.run_pure]
  · cases hq
theorem qmAssert_sound (hρ : ∀ x v, ρA x = some v → VR K v (ρ x)) {t xt : TypeId} {x : Operand} {ok : Bool} (ho : o.op = .typeAssert x xt t ok) {v : AV} {dep : Option Nat} (hq : qmAssert P ρA x t ok = some (v, dep)) : Yld P o ρ K w v dep := by
  unfold qmAssert at hq
  split at hq
  · cases hq
  · rename_i d hni hu
    split at hq
    · rename_i t' v0 hx
      have hxv := hρ x _ hx
      generalize hxe : ρ x = xv at hxv
      cases hxv with
      | ifc _ hz =>
        rename_i uz
        have hcase : ∀ w' : World, (Instr.typeAssert (.iface t' uz) xt t ok).run P w' = (if t' = t then (pure (if ok then .tuple #[uz, .bool true] else uz) : Sem Value) else (if ok then (do pure (.tuple #[← zeroValue t, .bool false])) else runtimePanic (.typeAssertion (some xt) (some t') t ""))).run P w' := by
          intro w'
          unfold Instr.typeAssert
          rw [Sem.run_bind, run_underlying hu]
          simp only [Result.andThen_ok]
        split at hq
        · rename_i e
          cases hq
          refine .of (if ok then .tuple #[uz, .bool true] else uz) ?_ (fun w' => ?_)
          · cases ok
            · exact hz
            · exact .tup [v0, .pv (.lit (.bool true))] [uz, .bool true] rfl (fun n hn hn' => by
                match n, hn with
                | 0, _ => exact hz
                | 1, _ => exact .pv (.lit _ rfl))
          · simp only [execOp, ho, hxe, Sem.run_bind, hcase w', if_pos e, Sem.run_pure, Result.andThen_ok]
        · rename_i e
          split at hq
          · rename_i hok
            split at hq
            · rename_i z hz'
              cases hq
              obtain ⟨u, hu1, hu2⟩ := zeroV_sound (K := K) hz'
              refine .of (.tuple #[u, .bool false]) (.tup [z, .pv (.lit (.bool false))] [u, .bool false] rfl (fun n hn hn' => by
                match n, hn with
                | 0, _ => exact hu1
                | 1, _ => exact .pv (.lit _ rfl))) (fun w' => ?_)
              rw [hok] at hcase ho
              simp only [execOp, ho, hxe, Sem.run_bind, hcase w', if_neg e, if_true, hu2 w', Sem.run_pure, Result.andThen_ok]
            · cases hq
          · cases hq
    · cases hq
  · cases hq
theorem qopM_sound (H : WR K h w) (hρ : ∀ x v, ρA x = some v → VR K v (ρ x)) {v : AV} {dep : Option Nat} (hq : qopM P o.op ρA h = some (v, dep)) : Yld P o ρ K w v dep := by
  unfold qopM at hq
  split at hq
  · rename_i ho; exact qmIA_sound hρ ho hq
  · rename_i ho; exact qmSlice_sound hρ ho hq
  · rename_i ho; exact qmBin_sound hρ ho hq
  · rename_i ho; exact qmLook_sound H hρ ho hq
  · rename_i ho; exact qmIfc_sound hρ ho hq
  · rename_i ho; exact qmAssert_sound hρ ho hq
  · rename_i ho; exact qmLen_sound hρ ho hq
  · rename_i ho; exact qmCap_sound hρ ho hq
  · cases hq
end
end Go.Proofs.YtjpjcjnacnlhdaaGreat
