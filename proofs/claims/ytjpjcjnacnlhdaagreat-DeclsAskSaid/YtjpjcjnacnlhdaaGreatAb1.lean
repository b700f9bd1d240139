/- An abstract reading of values and worlds: pure data, variables of the call's own, rows that grow; and how it is kept. -/
import Derived.Below
import Derived.OrdersHeld
import Derived.Laws.AppendOwn
import Derived.Laws.Cells
import Derived.Laws.CopyRow
import Derived.Great.BuildSlice
namespace Go.Proofs.YtjpjcjnacnlhdaaGreat

/-- A value of one cell that holds no address. -/
def plainV : Value → Bool
  | .bool _ | .int _ _ | .float _ _ | .string _ | .nilFunc | .nilIface => true
  | .pointer none | .map none | .chan none => true
  | .slice none 0 0 => true
  | _ => false

/-- A pure datum of one cell. 'opq': some text that is none of a list, of a length within bounds; 'rng': some integer within bounds. -/
inductive PV where
  | lit (v : Value)
  | rows (es : List (List PV))
  | opq (ne : List ByteArray) (lo hi : Nat)
  | rng (lo hi : Nat)
  | sym (i : Nat)
  | any

/-- An abstract value: 'trows t': a row that may grow (token t); 'ptr': into a variable of the call's own; 'cptr': to cells that never change. -/
inductive AV where
  | pv (p : PV)
  | trows (t : Nat) (es : List (List PV))
  | tsym (t i : Nat)
  | ptr (i o : Nat)
  | cptr (cs : List PV)
  | agg (l : List AV)
  | tup (l : List AV)
  | fn (f : Nat) (caps : List AV)
  | sl (t lo len sz : Nat)
  | mp (t : Nat)
  | ifc (t : TypeId) (v : AV)

inductive AObj where
  | box (ty : TypeId) (cells : List AV)
  | tok (ty : TypeId) (sz len : Nat)
  | dead
  | mp (ks : List Value) (vs : List AV)

/-- What is known: cells that never change; a token's capacity and its elements' size; where the objects lie. -/
structure Kn where
  M : Nat → Nat → Option Value
  Z : Nat → Nat
  E : Nat → Nat
  mu : Nat → Option Nat
  R : Nat → PV

inductive PR (R : Nat → PV) (M : Nat → Nat → Option Value) : PV → Value → Prop where
  | lit (v : Value) (h : plainV v = true) : PR R M (.lit v) v
  | rows (es : List (List PV)) (a : Option Addr) (cap g off sz : Nat) (us : Nat → Nat → Value)
      (ha : es ≠ [] → a = some ⟨g, off, none⟩) (hn : es.length ≤ cap)
      (hsz : ∀ i (h : i < es.length), es[i].length = sz)
      (hc : ∀ i, i < es.length → ∀ j, j < sz → M g (off + i * sz + j) = some (us i j))
      (hr : ∀ i (h : i < es.length) j (hj : j < es[i].length), PR R M es[i][j] (us i j)) :
      PR R M (.rows es) (.slice a es.length cap)
  | opq (ne : List ByteArray) (lo hi : Nat) (s : ByteArray) (hne : ∀ x, x ∈ ne → s.data.toList ≠ x.data.toList) (hlo : lo ≤ s.size) (hhi : s.size ≤ hi) : PR R M (.opq ne lo hi) (.string s)
  | rng (lo hi : Nat) (n : Int) (hlo : (lo : Int) ≤ n) (hhi : n ≤ (hi : Int)) : PR R M (.rng lo hi) (.int .i64 n)
  | sym (i : Nat) (v : Value) (h : PR R M (R i) v) : PR R M (.sym i) v
  | any (v : Value) (h : v.oneCell' = true) : PR R M .any v

inductive VR (K : Kn) : AV → Value → Prop where
  | pv {p : PV} {v : Value} (h : PR K.R K.M p v) : VR K (.pv p) v
  | trows (t : Nat) (es : List (List PV)) (g : Nat) (us : Nat → Nat → Value) (hm : K.mu t = some g) (hn : es.length ≤ K.Z g)
      (hsz : ∀ i (h : i < es.length), es[i].length = K.E g)
      (hc : ∀ i, i < es.length → ∀ j, j < K.E g → K.M g (i * K.E g + j) = some (us i j))
      (hr : ∀ i (h : i < es.length) j (hj : j < es[i].length), PR K.R K.M es[i][j] (us i j)) :
      VR K (.trows t es) (.slice (some ⟨g, 0, none⟩) es.length (K.Z g))
  | tsym (t i : Nat) (es : List (List PV)) (hi : K.R i = .rows es) {v : Value} (h : VR K (.trows t es) v) : VR K (.tsym t i) v
  | ptr (i o g : Nat) (hm : K.mu i = some g) : VR K (.ptr i o) (.pointer (some ⟨g, o, none⟩))
  | cptr (cs : List PV) (g o : Nat) (us : Nat → Value) (hc : ∀ j, j < cs.length → K.M g (o + j) = some (us j))
      (hr : ∀ j (h : j < cs.length), PR K.R K.M cs[j] (us j)) : VR K (.cptr cs) (.pointer (some ⟨g, o, none⟩))
  | agg (l : List AV) (cs : List Value) (hl : l.length = cs.length) (h : ∀ i (h : i < l.length) (h' : i < cs.length), VR K l[i] cs[i]) : VR K (.agg l) (.agg cs.toArray)
  | tup (l : List AV) (cs : List Value) (hl : l.length = cs.length) (h : ∀ i (h : i < l.length) (h' : i < cs.length), VR K l[i] cs[i]) : VR K (.tup l) (.tuple cs.toArray)
  | fn (f : Nat) (l : List AV) (cs : List Value) (hl : l.length = cs.length) (h : ∀ i (h : i < l.length) (h' : i < cs.length), VR K l[i] cs[i]) : VR K (.fn f l) (.func (.func f) #[] cs.toArray)
  | sl (t lo len sz g cap off : Nat) (hm : K.mu t = some g) (he : K.E g = sz) (hl : len ≤ cap) (hz : lo + cap ≤ K.Z g) (hof : 0 < cap → off = lo * sz) : VR K (.sl t lo len sz) (.slice (some ⟨g, off, none⟩) len cap)
  | mp (t g : Nat) (hm : K.mu t = some g) : VR K (.mp t) (.map (some g))
  | ifc (t : TypeId) {v : AV} {u : Value} (h : VR K v u) : VR K (.ifc t v) (.iface t u)

/-- Lists of values. -/
def VL (K : Kn) (l : List AV) (cs : List Value) : Prop := l.length = cs.length ∧ ∀ i (_ : i < l.length) (_ : i < cs.length), VR K l[i] cs[i]

structure Ext (K K' : Kn) : Prop where
  M : ∀ g o v, K.M g o = some v → K'.M g o = some v
  mu : ∀ i g, K.mu i = some g → K'.mu i = some g
  Z : ∀ i g, K.mu i = some g → K'.Z g = K.Z g
  E : ∀ i g, K.mu i = some g → K'.E g = K.E g
  R : K'.R = K.R
theorem Ext.refl (K : Kn) : Ext K K := ⟨fun _ _ _ h => h, fun _ _ h => h, fun _ _ _ => rfl, fun _ _ _ => rfl, rfl⟩
theorem Ext.trans {K K' K'' : Kn} (h : Ext K K') (h' : Ext K' K'') : Ext K K'' :=
  ⟨fun g o v hh => h'.M g o v (h.M g o v hh), fun i g hh => h'.mu i g (h.mu i g hh), fun i g hh => (h'.Z i g (h.mu i g hh)).trans (h.Z i g hh), fun i g hh => (h'.E i g (h.mu i g hh)).trans (h.E i g hh), h'.R.trans h.R⟩

theorem PR.mono {R : Nat → PV} {M M' : Nat → Nat → Option Value} (hM : ∀ g o v, M g o = some v → M' g o = some v) {p : PV} {v : Value} (h : PR R M p v) : PR R M' p v := by
  induction h with
  | lit v h => exact .lit v h
  | rows es a cap g off sz us ha hn hsz hc _ ih => exact .rows es a cap g off sz us ha hn hsz (fun i hi j hj => hM _ _ _ (hc i hi j hj)) ih
  | opq ne lo hi s hne hlo hhi => exact .opq ne lo hi s hne hlo hhi
  | rng lo hi n hlo hhi => exact .rng lo hi n hlo hhi
  | sym i v _ ih => exact .sym i v ih
  | any v h => exact .any v h
theorem PR.ext {K K' : Kn} (e : Ext K K') {p : PV} {v : Value} (h : PR K.R K.M p v) : PR K'.R K'.M p v := by rw [e.R]; exact h.mono e.M

theorem VR.mono {K K' : Kn} (e : Ext K K') {a : AV} {v : Value} (h : VR K a v) : VR K' a v := by
  induction h with
  | pv h => exact .pv (h.ext e)
  | trows t es g us hm hn hsz hc hr =>
    have hz := e.Z t g hm
    have he := e.E t g hm
    rw [← hz]
    refine .trows t es g us (e.mu t g hm) (by rw [hz]; exact hn) (by rw [he]; exact hsz) (fun i hi j hj => ?_) (fun i hi j hj => (hr i hi j hj).ext e)
    rw [he] at hj ⊢
    exact e.M _ _ _ (hc i hi j hj)
  | tsym t i es hi _ ih => exact .tsym t i es (by rw [e.R]; exact hi) ih
  | ptr i o g hm => exact .ptr i o g (e.mu i g hm)
  | cptr cs g o us hc hr => exact .cptr cs g o us (fun j hj => e.M _ _ _ (hc j hj)) (fun j hj => (hr j hj).ext e)
  | agg l cs hl _ ih => exact .agg l cs hl ih
  | tup l cs hl _ ih => exact .tup l cs hl ih
  | fn f l cs hl _ ih => exact .fn f l cs hl ih
  | sl t lo len sz g cap off hm he hl hz hof => exact .sl t lo len sz g cap off (e.mu t g hm) ((e.E t g hm).trans he) hl (by rw [e.Z t g hm]; exact hz) hof
  | mp t g hm => exact .mp t g (e.mu t g hm)
  | ifc t _ ih => exact .ifc t ih
theorem VL.mono {K K' : Kn} (e : Ext K K') {l : List AV} {cs : List Value} (h : VL K l cs) : VL K' l cs := ⟨h.1, fun i hi hi' => (h.2 i hi hi').mono e⟩

theorem PR.one {R : Nat → PV} {M : Nat → Nat → Option Value} {p : PV} {v : Value} (h : PR R M p v) : v.oneCell' = true := by
  induction h with
  | lit v h => cases v <;> first | rfl | simp [plainV] at h
  | rows => rfl
  | opq => rfl
  | rng => rfl
  | sym _ _ _ ih => exact ih
  | any _ h => exact h

/-- A value of one cell. -/
def AV.isCell : AV → Bool
  | .agg _ | .tup _ => false
  | _ => true
theorem VR.one {K : Kn} {a : AV} {v : Value} (h : VR K a v) (hc : a.isCell = true) : v.oneCell' = true := by
  cases h with
  | pv h => exact h.one
  | agg => cases hc
  | tup => cases hc
  | trows => rfl
  | tsym t i es hi h => cases h; rfl
  | ptr => rfl
  | cptr => rfl
  | fn => rfl
  | sl => rfl
  | mp => rfl
  | ifc => rfl
def AV.cells : AV → List AV
  | .agg l => l
  | v => [v]
theorem VL.single {K : Kn} {a : AV} {v : Value} (h : VR K a v) : VL K [a] [v] := ⟨rfl, fun i hi hi' => by
  have : i = 0 := by simp at hi; exact hi
  subst this
  exact h⟩
theorem VR.cells {K : Kn} {a : AV} {v : Value} (h : VR K a v) : VL K a.cells v.cells.toList := by
  cases h with
  | agg l cs hl h => exact ⟨by simpa [AV.cells, Value.cells] using hl, fun i hi hi' => h i hi (by simpa [Value.cells] using hi')⟩
  | pv h' =>
    have := VL.single (VR.pv h')
    cases h' with
    | lit v hp => cases v <;> first | exact this | simp [plainV] at hp
    | rows => exact this
    | opq => exact this
    | rng => exact this
    | sym i v h =>
      have ho := h.one
      have hv : v.cells.toList = [v] := by cases v <;> first | rfl | cases ho
      rw [hv]; exact this
    | any v h =>
      have hv : v.cells.toList = [v] := by cases v <;> first | rfl | cases h
      rw [hv]; exact this
  | trows t es g us a b c d e => exact VL.single (.trows t es g us a b c d e)
  | tsym t i es hi h' =>
    have := VL.single (VR.tsym t i es hi h')
    cases h' with
    | trows t es g us a b c d e => exact this
  | ptr i o g a => exact VL.single (.ptr i o g a)
  | cptr cs g o us a b => exact VL.single (.cptr cs g o us a b)
  | tup l cs hl h => exact VL.single (.tup l cs hl h)
  | fn f l cs hl h => exact VL.single (.fn f l cs hl h)
  | sl t lo len sz g cap off a b c d f => exact VL.single (.sl t lo len sz g cap off a b c d f)
  | mp t g a => exact VL.single (.mp t g a)
  | ifc t a => exact VL.single (.ifc t a)

/-- A pure datum of an abstract value. -/
def AV.toPV : AV → Option PV
  | .pv p => some p
  | .trows _ es => some (.rows es)
  | .tsym _ i => some (.sym i)
  | _ => none
theorem VR.toPV {K : Kn} {a : AV} {v : Value} (h : VR K a v) {p : PV} (hp : a.toPV = some p) : PR K.R K.M p v := by
  cases h with
  | pv h => cases hp; exact h
  | trows t es g us hm hn hsz hc hr =>
    cases hp
    exact .rows es (some ⟨g, 0, none⟩) (K.Z g) g 0 (K.E g) us (fun _ => rfl) hn hsz (fun i hi j hj => by rw [Nat.zero_add]; exact hc i hi j hj) hr
  | tsym t i es hi h =>
    cases hp
    refine .sym i _ ?_
    rw [hi]
    cases h with
    | trows t es g us hm hn hsz hc hr => exact .rows es (some ⟨g, 0, none⟩) (K.Z g) g 0 (K.E g) us (fun _ => rfl) hn hsz (fun i hi j hj => by rw [Nat.zero_add]; exact hc i hi j hj) hr
  | ptr => cases hp
  | cptr => cases hp
  | agg => cases hp
  | tup => cases hp
  | fn => cases hp
  | sl => cases hp
  | mp => cases hp
  | ifc => cases hp

/-- A token's length: a number, or the length of a row that is known by its name alone. -/
def PV.rowLen : PV → Nat
  | .rows es => es.length
  | _ => 0
def symBase : Nat := 18446744073709551616
def dl (R : Nat → PV) (n : Nat) : Nat := if n < symBase then n else (R (n - symBase)).rowLen
theorem dl_small {R : Nat → PV} {n : Nat} (h : n < symBase) : dl R n = n := if_pos h
theorem dl_sym {R : Nat → PV} {i : Nat} {es : List (List PV)} (h : R i = .rows es) : dl R (symBase + i) = es.length := by
  unfold dl
  rw [if_neg (by omega), show symBase + i - symBase = i by omega, h]; rfl
def AObj.live : AObj → Bool
  | .dead => false
  | _ => true
/-- The entries of a map. -/
def ML (K : Kn) (ks : List Value) (vs : List AV) (l : List MapEntry) : Prop := l.map (·.key) = ks ∧ VL K vs (l.map (·.val))
theorem ML.mono {K K' : Kn} (e : Ext K K') {ks : List Value} {vs : List AV} {l : List MapEntry} (h : ML K ks vs l) : ML K' ks vs l := ⟨h.1, h.2.mono e⟩
/-- The world holds what the abstract heap says. -/
structure WR (K : Kn) (h : List AObj) (w : World) : Prop where
  fresh : ∀ i, h.length ≤ i → K.mu i = none
  has : ∀ i, i < h.length → ∃ g, K.mu i = some g
  lt : ∀ i g, K.mu i = some g → g < w.heap.size
  box : ∀ (i : Nat) ty cells, h[i]? = some (.box ty cells) → ∃ g cs, K.mu i = some g ∧ w.heap[g]? = some (.cells cs ty (0, 0)) ∧ (cs.size = K.Z g * K.E g ∧ K.Z g ≤ maxLen) ∧ VL K cells (cs.toList.take cells.length)
  map : ∀ (i : Nat) ks vs, h[i]? = some (.mp ks vs) → ∃ g ents clock, K.mu i = some g ∧ w.heap[g]? = some (.map ents clock) ∧ ML K ks vs ents.toList
  tok : ∀ (t : Nat) ty sz len, h[t]? = some (.tok ty sz len) → ∃ g cs, K.mu t = some g ∧ w.heap[g]? = some (.cells cs ty (0, 0)) ∧ cs.size = K.Z g * sz ∧ K.E g = sz ∧ K.Z g ≤ maxLen ∧ ∀ o, dl K.R len * sz ≤ o → K.M g o = none
  inj : ∀ (i j : Nat) x y g, h[i]? = some x → h[j]? = some y → x.live = true → y.live = true → K.mu i = some g → K.mu j = some g → i = j
  apart : ∀ (i : Nat) ty cells g, h[i]? = some (.box ty cells) → K.mu i = some g → ∀ o, K.M g o = none
  agr : ∀ g o v, K.M g o = some v → w.cell? ⟨g, o, none⟩ = some v

/-- Only blocks of S, and new ones, have changed. -/
structure Frm (S : Nat → Prop) (w w' : World) : Prop where
  os : w'.os = w.os
  tape : w'.tape = w.tape
  output : w'.output = w.output
  size : w.heap.size ≤ w'.heap.size
  block : ∀ k, k < w.heap.size → ¬ S k → w'.heap[k]? = w.heap[k]?
theorem Frm.refl (S : Nat → Prop) (w : World) : Frm S w w := ⟨rfl, rfl, rfl, Nat.le_refl _, fun _ _ _ => rfl⟩
theorem Frm.trans {S T : Nat → Prop} {a b c : World} (h : Frm S a b) (k : Frm T b c) (hT : ∀ i, i < a.heap.size → T i → S i) : Frm S a c :=
  ⟨k.os.trans h.os, k.tape.trans h.tape, k.output.trans h.output, Nat.le_trans h.size k.size,
    fun i hi hs => (k.block i (Nat.lt_of_lt_of_le hi h.size) (fun ht => hs (hT i hi ht))).trans (h.block i hi hs)⟩
theorem Frm.mono {S T : Nat → Prop} {a b : World} (h : Frm S a b) (hT : ∀ i, i < a.heap.size → S i → T i) : Frm T a b :=
  ⟨h.os, h.tape, h.output, h.size, fun i hi hs => h.block i hi (fun ht => hs (hT i hi ht))⟩
/-- The blocks of some objects. -/
def Kn.at (K : Kn) (h : List AObj) (l : List Nat) (b : Nat) : Prop := ∃ i x, i ∈ l ∧ h[i]? = some x ∧ x.live = true ∧ K.mu i = some b
def Kn.any (K : Kn) (b : Nat) : Prop := ∃ i, K.mu i = some b
end Go.Proofs.YtjpjcjnacnlhdaaGreat
