/- Joined texts. -/
import Derived.Test.YtijcobeebaceoaaGreatDoorBl
import Derived.Lib.DecodeN
import Derived.Lib.RuneCount
import Derived.Test.YtijcobeebaceoaaGreatDoorBf
namespace Go.Proofs.YtijcobeebaceoaaGreatDoor.Lx
set_option maxRecDepth 20000
open Go.RowKit

/-- A byte that is no UTF-8 stands at a place. -/
def badAt (s : ByteArray) (pos : Nat) : Bool := ((Utf8.decode s pos).1 : Int) == 65533 && !Lib.hasPrefix (s.extract pos s.size).data.toList [239, 191, 189]
def spoilF (s : ByteArray) : Nat → Nat → Int
  | 0, _ => -1
  | f + 1, pos => if pos < s.size then (if badAt s pos = true then (pos : Int) else spoilF s f (pos + (Utf8.decode s pos).2)) else -1
def spoilP (s : ByteArray) : Int := spoilF s (s.size + 1) 0

theorem spoilF_more (s : ByteArray) : ∀ (f pos : Nat), s.size - pos < f → spoilF s f pos = spoilF s (s.size - pos + 1) pos
  | 0, pos, h => by omega
  | f + 1, pos, h => by
    by_cases hp : pos < s.size
    · simp only [spoilF, hp, if_true]
      cases hb : badAt s pos
      · simp only [Bool.false_eq_true, if_false]
        have hw := Lib.decode_width_pos s pos hp
        rw [spoilF_more s f _ (by omega), spoilF_more s (s.size - pos) (pos + (Utf8.decode s pos).2) (by omega)]
      · simp
    · simp [spoilF, hp]
theorem spoil_go {s : ByteArray} {pos : Nat} (hp : pos < s.size) (hb : badAt s pos = false) (h : spoilP s = spoilF s (s.size - pos + 1) pos) :
    spoilP s = spoilF s (s.size - (pos + (Utf8.decode s pos).2) + 1) (pos + (Utf8.decode s pos).2) := by
  rw [h]
  have hw := Lib.decode_width_pos s pos hp
  conv => lhs; unfold spoilF
  simp only [hp, if_true, hb, Bool.false_eq_true, if_false]
  exact spoilF_more s _ _ (by omega)
theorem spoil_here {s : ByteArray} {pos : Nat} (hp : pos < s.size) (hb : badAt s pos = true) (h : spoilP s = spoilF s (s.size - pos + 1) pos) : spoilP s = pos := by
  rw [h]
  simp [spoilF, hp, hb]
theorem spoil_end {s : ByteArray} {pos : Nat} (hp : ¬ pos < s.size) (h : spoilP s = spoilF s (s.size - pos + 1) pos) : spoilP s = -1 := by
  rw [h]
  simp [spoilF, hp]

set_option maxHeartbeats 1000000 in
theorem spoiled_any (s : ByteArray) (w : World) (hs : s.size ≤ 1000000) :
    Calls Tryz.prog 75 #[.string s] w fun e w' => e = .returned (.int .i64 (spoilP s)) ∧ Below w.heap.size w w' := by
  go_enter Tryz.func75, Tryz.ntmps75
  go_wp2_with fail
  go_loopg [2] (s.size) (fun g o wr => ∃ pos : Nat, o = .int .i64 0 ∧ wr = w.iter s pos ∧ s.size - pos ≤ g ∧ spoilP s = spoilF s (s.size - pos + 1) pos)
  case atStart => exact ⟨0, rfl, rfl, by omega, rfl⟩
  case round =>
    obtain ⟨pos, rfl, hwr, hg, hsp⟩ := hrel
    have HW := Lib.hid hwr
    have HS := Lib.hid hsp
    clear hwr hsp
    have hbl : Below w.heap.size w (w.iter s pos) := (Below.refl _ _).alloc (Nat.le_refl _) _
    by_cases hp : pos < s.size
    · have hnx := run_next_any (P := Tryz.prog) w s pos 0 hp
      have hw1 := Lib.decode_width_pos s pos hp
      have hrw := HW.out
      rw [hrw]
      clear hrw
      have hlt : pos < pos + (Utf8.decode s pos).2 := by omega
      cases hd : (((Utf8.decode s pos).1 : Int) == 65533)
      · have HB := Lib.hid (spoil_go hp (by simp [badAt, hd]) HS.out)
        go_wp2_with fail
        go_roundg (s.size - (pos + (Utf8.decode s pos).2))
        case measure => omega
        case rel => exact ⟨pos + (Utf8.decode s pos).2, rfl, rfl, Nat.le_refl _, HB.out⟩
      · cases hh : Lib.hasPrefix (s.extract pos s.size).data.toList [239, 191, 189]
        · have HB := Lib.hid (spoil_here hp (by unfold badAt; rw [hd, hh]; rfl) HS.out)
          have HH := Lib.hid hh
          clear hh
          go_wp2_with fail
          refine (Tryz.strings_HasPrefix _ _ _).mono ?_
          rintro e w' ⟨rfl, rfl⟩
          rw [HH.out]
          go_wp2_with fail
          go_ret
          rw [HB.out]
          exact ⟨rfl, (Below.refl _ _).alloc (Nat.le_refl _) _⟩
        · have HB := Lib.hid (spoil_go hp (by unfold badAt; rw [hd, hh]; rfl) HS.out)
          have HH := Lib.hid hh
          clear hh
          go_wp2_with fail
          refine (Tryz.strings_HasPrefix _ _ _).mono ?_
          rintro e w' ⟨rfl, rfl⟩
          rw [HH.out]
          go_wp2_with fail
          go_roundg (s.size - (pos + (Utf8.decode s pos).2))
          case measure => omega
          case rel => exact ⟨pos + (Utf8.decode s pos).2, rfl, rfl, Nat.le_refl _, HB.out⟩
    · have hnx := run_next_end (P := Tryz.prog) w s pos 0 hp
      have HB := Lib.hid (spoil_end hp HS.out)
      have hrw := HW.out
      rw [hrw]
      clear hrw
      go_wp2_with fail
      go_ret
      rw [HB.out]
      exact ⟨rfl, (Below.refl _ _).alloc (Nat.le_refl _) _⟩
end Go.Proofs.YtijcobeebaceoaaGreatDoor.Lx
namespace Go.Proofs.YtijcobeebaceoaaGreatDoor.Lx
set_option maxRecDepth 20000
open Go.RowKit

theorem putR_pos {kind n : Int} {x : ByteArray} {at_ k : Nat} {t : Tok} {j : Nat} (h : putR kind x n at_ k = .ok (t, j)) : j = k := by
  unfold putR at h
  split at h
  · cases h
  · cases h; rfl
theorem textL_len : ∀ (n : Nat) (l x r : List UInt8), l.length ≤ n → textL l = some (x, r) → r.length < l.length
  | 0, l, x, r, hn, h => by
    have : l = [] := List.eq_nil_of_length_eq_zero (by omega)
    subst this
    cases h
  | n + 1, [], x, r, hn, h => by cases h
  | n + 1, c :: l, x, r, hn, h => by
    rw [textL_cons] at h
    simp only [List.length_cons] at hn ⊢
    split at h
    · cases h; omega
    · split at h
      · cases h
      · split at h
        · cases l with
          | nil => cases h
          | cons d l' =>
            simp only at h
            split at h
            · cases h
            · cases h2 : textL l' with
              | none => rw [h2] at h; cases h
              | some p =>
                rw [h2] at h
                have := textL_len n l' p.1 p.2 (by simp only [List.length_cons] at hn; omega) h2
                cases h
                simp only [List.length_cons]
                omega
        · cases h2 : textL l with
          | none => rw [h2] at h; cases h
          | some p =>
            rw [h2] at h
            have := textL_len n l p.1 p.2 (by omega) h2
            cases h
            omega
theorem adv_gt {p : UInt8 → Bool} {s : ByteArray} {k : Nat} (h : k < s.size) (hp : p s[k] = true) : k < adv p s k := by
  unfold adv
  rw [drop_at s k h]
  simp [hp]
theorem oneR_bd {s : ByteArray} {k : Nat} (h : k < s.size) {t : Tok} {j : Nat} (h1 : oneR s k s[k] = .ok (t, j)) : k < j ∧ j ≤ s.size := by
  unfold oneR at h1
  split at h1
  · rename_i hc
    have := putR_pos h1
    subst this
    refine ⟨adv_gt h ?_, adv_le _ s k (by omega)⟩
    rcases hc with hc | hc <;> simp [insideB, hc]
  · split at h1
    · rename_i hd
      unfold numR numOf at h1
      split at h1
      · cases h1
      · have := putR_pos h1
        subst this
        exact ⟨adv_gt h hd, adv_le _ s k (by omega)⟩
    · split at h1
      · unfold textR textOfR at h1
        split at h1
        · cases h1
        · rename_i x r hx
          have := putR_pos h1
          subst this
          have h2 := textL_len _ _ _ _ (Nat.le_refl _) hx
          have hl : s.data.toList.length = s.size := rfl
          rw [List.length_drop] at h2
          omega
      · split at h1
        · rename_i hs
          have := putR_pos h1
          subst this
          exact ⟨adv_gt h hs, adv_le _ s k (by omega)⟩
        · split at h1
          · have := putR_pos h1
            subst this
            omega
          · cases h1
theorem skipPos_ge (s : ByteArray) (k : Nat) (h : k ≤ s.size) : k ≤ skipPos s k ∧ skipPos s k ≤ s.size := by
  unfold skipPos
  have h1 := skipC_length false (s.data.toList.drop k)
  have hl : s.data.toList.length = s.size := rfl
  rw [List.length_drop] at h1
  omega

def endTok (s : ByteArray) : Tok := ⟨0, ⟨#[]⟩, 0, s.size⟩
/-- The tokens from a place on, behind blanks. -/
def scanF (s : ByteArray) : Nat → Nat → List Tok → Except (Int × Nat) (List Tok)
  | 0, _, ts => .ok (ts ++ [endTok s])
  | f + 1, pos, ts =>
    if h : pos < s.size then
      match oneR s pos s[pos] with
      | .error c => .error (c, pos)
      | .ok (t, j) => scanF s f (skipPos s j) (ts ++ [t])
    else .ok (ts ++ [endTok s])
def scanP (s : ByteArray) : Except (Int × Nat) (List Tok) :=
  if 60000 < s.size then .error (3, 0)
  else if 0 ≤ spoilP s then .error (100, (spoilP s).toNat)
  else scanF s (s.size + 1) (skipPos s 0) []

theorem scanF_more (s : ByteArray) : ∀ (f pos : Nat) (ts : List Tok), s.size - pos < f → scanF s f pos ts = scanF s (s.size - pos + 1) pos ts
  | 0, pos, ts, h => by omega
  | f + 1, pos, ts, h => by
    by_cases hp : pos < s.size
    · simp only [scanF, hp, dif_pos]
      cases h1 : oneR s pos s[pos] with
      | error c => rfl
      | ok p =>
        obtain ⟨t, j⟩ := p
        have hb := oneR_bd hp h1
        have hk := skipPos_ge s j hb.2
        simp only
        rw [scanF_more s f _ _ (by omega), scanF_more s (s.size - pos) (skipPos s j) _ (by omega)]
    · simp [scanF, hp]

/-- What 'Scan' leaves. -/
def Scanned (w : World) (r : Except (Int × Nat) (List Tok)) (e : Ending) (w' : World) : Prop :=
  match r with
  | .ok ts => ∃ v, e = .returned (.tuple #[v, .agg #[.int .i64 0, .int .i64 0]]) ∧ w'.ownsRow w.heap.size 64 4 v ts.length (tokCells ts) ∧ Below w.heap.size w w'
  | .error (c, at_) => e = .returned (.tuple #[.slice none 0 0, .agg #[.int .i64 c, .int .i64 (at_ : Int)]]) ∧ Below w.heap.size w w'

theorem spoilF_ge (s : ByteArray) : ∀ f pos, -1 ≤ spoilF s f pos
  | 0, _ => by simp [spoilF]
  | f + 1, pos => by
    simp only [spoilF]
    split
    · split
      · omega
      · exact spoilF_ge s f _
    · omega

set_option maxHeartbeats 1000000 in
theorem scan_limit (s : ByteArray) (w : World) (h : 60000 < s.size) (hs : s.size ≤ maxLen) : Calls Tryz.prog 42 #[.string s] w (Scanned w (scanP s)) := by
  have HR : Hid (scanP s = .error (3, 0)) := by
    show scanP s = _
    unfold scanP; rw [if_pos h]
  unfold maxLen at hs
  go_enter Tryz.func42, Tryz.ntmps42
  go_wp2_with fail
  refine bodyPost_ret (v := .tuple #[.slice none 0 0, .agg #[.int .i64 3, .int .i64 0]]) (by simp [results, Tryz.results42, go_sem]) rfl ?_
  rw [HR.out]
  exact ⟨rfl, ((Below.refl _ _).alloc (Nat.le_refl _) _)⟩
end Go.Proofs.YtijcobeebaceoaaGreatDoor.Lx
namespace Go.Proofs.YtijcobeebaceoaaGreatDoor.Lx
set_option maxRecDepth 20000
open Go.RowKit

set_option maxHeartbeats 1000000 in
theorem scan_spoiled (s : ByteArray) (w : World) (h : ¬ 60000 < s.size) (hsp : 0 ≤ spoilP s) : Calls Tryz.prog 42 #[.string s] w (Scanned w (scanP s)) := by
  have HR : Hid (scanP s = .error (100, (spoilP s).toNat)) := by
    show scanP s = _
    unfold scanP; rw [if_neg h, if_pos hsp]
  have hs : (s.size : Int) ≤ 60000 := by omega
  go_enter Tryz.func42, Tryz.ntmps42
  go_wp2_with fail
  refine (spoiled_any s _ (by omega)).mono ?_
  rintro e w1 ⟨rfl, hb⟩
  obtain ⟨n, hn⟩ := Int.eq_ofNat_of_zero_le hsp
  rw [hn] at HR hsp ⊢
  clear hn
  have hc0 : w1.heap[w.heap.size]? = some (.cells #[.int .i64 0, .int .i64 0] 28 (0, 0)) := by
    rw [hb.block w.heap.size (by simp)]
    exact heap_alloc_new w _
  have hf : w1.frozen? ⟨w.heap.size, 0, none⟩ = false := by simp [World.frozen?, hc0]
  have hf1 : w1.frozen? ⟨w.heap.size, 1, none⟩ = false := by simp [World.frozen?, hc0]
  have hl0 : w1.cell? ⟨w.heap.size, 0, none⟩ = some (.int .i64 0) := by simp [World.cell?, hc0]
  have hl1 : w1.cell? ⟨w.heap.size, 1, none⟩ = some (.int .i64 0) := by simp [World.cell?, hc0]
  have hbl : Below w.heap.size w w1 := ((Below.refl _ _).alloc (Nat.le_refl _) _).trans (hb.mono (by simp))
  have hsz : w.heap.size < w1.heap.size := by have := hb.size; simp at this; omega
  clear hc0 hb
  go_wp2_with fail
  refine bodyPost_ret (v := .tuple #[.slice none 0 0, .agg #[.int .i64 100, .int .i64 (n : Int)]]) (by simp [results, Tryz.results42, go_sem, hl0, hl1]) rfl ?_
  rw [HR.out]
  exact ⟨rfl, (hbl.setCell (by simp) _).setCell (by simp) _⟩

/-- 'skip', over the scanner with its tokens. -/
theorem skip_sc (b k : Nat) (s : ByteArray) (ts : List Tok) (w : World) (hsc : Sc w b s k ts) (hk : k ≤ s.size) (hs : s.size ≤ 1000000) :
    Calls Tryz.prog 76 #[.pointer (some ⟨b, 0, none⟩)] w fun e w' => e = .returned (.tuple #[]) ∧ Sc w' b s (skipPos s k) ts ∧ Below b w w' := by
  obtain ⟨v, hb, ho⟩ := hsc
  refine (skip_any b k s v w hb hk hs).mono ?_
  rintro e w' ⟨rfl, h1, h2⟩
  exact ⟨rfl, Sc.moved ho h1 h2, below_of_grown h2 (Nat.le_of_lt hb.lt)⟩

theorem ownsRow_base {w : World} {base base' : Nat} {e : TypeId} {size : Nat} {v : Value} {n : Nat} {xs : List Value} (h : w.ownsRow base e size v n xs) (hb : base' ≤ base) : w.ownsRow base' e size v n xs := by
  refine ⟨h.1, ?_⟩
  rcases h.2 with h2 | ⟨g, cap, cur, hv, hg, r⟩
  · exact .inl h2
  · exact .inr ⟨g, cap, cur, hv, by omega, r⟩

/-- The result's variable. -/
def Res (w : World) (r : Nat) : Prop := w.heap[r]? = some (.cells #[.int .i64 0, .int .i64 0] 28 (0, 0))
theorem Res.f {w : World} {r : Nat} (h : Res w r) (o : Nat) : w.frozen? ⟨r, o, none⟩ = false := by simp [World.frozen?, show w.heap[r]? = _ from h]
theorem Res.c0 {w : World} {r : Nat} (h : Res w r) : w.cell? ⟨r, 0, none⟩ = some (.int .i64 0) := by simp [World.cell?, show w.heap[r]? = _ from h]
theorem Res.c1 {w : World} {r : Nat} (h : Res w r) : w.cell? ⟨r, 1, none⟩ = some (.int .i64 0) := by simp [World.cell?, show w.heap[r]? = _ from h]

theorem putR_err {kind n : Int} {x : ByteArray} {at_ k : Nat} {c : Int} (h : putR kind x n at_ k = .error c) : c = 104 := by
  unfold putR at h
  split at h
  · cases h; rfl
  · cases h
theorem oneR_err {s : ByteArray} {k : Nat} {d : UInt8} {c : Int} (h1 : oneR s k d = .error c) : (c != 0) = true := by
  unfold oneR at h1
  split at h1
  · have := putR_err h1; subst this; rfl
  · split at h1
    · unfold numR numOf at h1
      split at h1
      · cases h1; rfl
      · have := putR_err h1; subst this; rfl
    · split at h1
      · unfold textR textOfR at h1
        split at h1
        · cases h1; rfl
        · have := putR_err h1; subst this; rfl
      · split at h1
        · have := putR_err h1; subst this; rfl
        · split at h1
          · have := putR_err h1; subst this; rfl
          · cases h1; rfl
theorem scanF_err {s : ByteArray} {pos : Nat} {ts : List Tok} (hp : pos < s.size) {c : Int} (h : oneR s pos s[pos] = .error c) : scanF s (s.size - pos + 1) pos ts = .error (c, pos) := by
  simp [scanF, hp, h]
theorem scanF_ok {s : ByteArray} {pos : Nat} {ts : List Tok} (hp : pos < s.size) {t : Tok} {j : Nat} (h : oneR s pos s[pos] = .ok (t, j)) :
    scanF s (s.size - pos + 1) pos ts = scanF s (s.size - skipPos s j + 1) (skipPos s j) (ts ++ [t]) := by
  have hb := oneR_bd hp h
  have hk := skipPos_ge s j hb.2
  have : scanF s (s.size - pos + 1) pos ts = scanF s (s.size - pos) (skipPos s j) (ts ++ [t]) := by simp [scanF, hp, h]
  rw [this]
  exact scanF_more s _ _ _ (by omega)
theorem scanF_end {s : ByteArray} {pos : Nat} {ts : List Tok} (hp : ¬ pos < s.size) : scanF s (s.size - pos + 1) pos ts = .ok (ts ++ [endTok s]) := by
  simp [scanF, hp]

set_option maxHeartbeats 2000000 in
theorem scan_main (s : ByteArray) (w : World) (h : ¬ 60000 < s.size) (hsp : ¬ 0 ≤ spoilP s) : Calls Tryz.prog 42 #[.string s] w (Scanned w (scanP s)) := by
  have HR : Hid (scanP s = scanF s (s.size + 1) (skipPos s 0) []) := by
    show scanP s = _
    unfold scanP; rw [if_neg h, if_neg hsp]
  have hs : (s.size : Int) ≤ 60000 := by omega
  have hdl : decide ((60000 : Int) < (s.size : Int)) = false := by simp; omega
  go_enter Tryz.func42, Tryz.ntmps42
  go_wp2_with fail
  refine (spoiled_any s _ (by omega)).mono ?_
  rintro e w1 ⟨rfl, hb⟩
  have hres : Res w1 w.heap.size := by
    unfold Res
    rw [hb.block w.heap.size (by simp)]
    exact heap_alloc_new w _
  have hbl : Below w.heap.size w w1 := ((Below.refl _ _).alloc (Nat.le_refl _) _).trans (hb.mono (by simp))
  have hsz : w.heap.size < w1.heap.size := by have := hb.size; simp at this; omega
  have hspn : spoilP s < 0 := by omega
  generalize spoilP s = sp at *
  have hds : decide (0 ≤ sp) = false := by simp; omega
  generalize hr : w.heap.size = r at *
  clear hb
  go_wp2_with fail
  have hsc : Sc (w1.alloc (.cells #[.string s, .int .i64 0, .slice none 0 0] 142)) w1.heap.size s 0 [] := ⟨.slice none 0 0, heap_alloc_new w1 _, World.ownsRow_nil _ _ _ _⟩
  have hb2 : Below w1.heap.size w1 (w1.alloc (.cells #[.string s, .int .i64 0, .slice none 0 0] 142)) := (Below.refl _ _).alloc (Nat.le_refl _) _
  generalize w1.alloc (.cells #[.string s, .int .i64 0, .slice none 0 0] 142) = w2 at *
  generalize w1.heap.size = b at *
  refine (skip_sc b 0 s [] _ hsc (Nat.zero_le _) (by omega)).mono ?_
  rintro e w3 ⟨rfl, hsc3, hb3⟩
  have hb4 := hb2.trans hb3
  have hpos := skipPos_ge s 0 (Nat.zero_le _)
  have HS : Hid (scanP s = scanF s (s.size - skipPos s 0 + 1) (skipPos s 0) []) := HR.out.trans (scanF_more s _ _ _ (by omega))
  clear hsc hb2 hb3 HR
  generalize skipPos s 0 = p0 at *
  go_wp2_with fail
  go_loopg [] (s.size - p0) (fun g wr => ∃ (pos : Nat) (ts : List Tok), pos ≤ s.size ∧ s.size - pos = g ∧ ts.length ≤ pos ∧ Sc wr b s pos ts ∧ Below b w1 wr ∧ scanP s = scanF s (s.size - pos + 1) pos ts)
  case atStart => exact ⟨p0, [], hpos.2, rfl, by simp, hsc3, hb4, HS.out⟩
  case round =>
    obtain ⟨pos, ts, hp, hg, hts, hsc, hbw, hscan⟩ := hrel
    have HG := Lib.hid hg
    have HN := Lib.hid hscan
    clear hg hscan hsc3 hb4 HS
    have hsc0 := hsc
    obtain ⟨v, hb, ho⟩ := hsc
    have c1 := hb.c1
    have c2 := hb.c2
    have hresr : Res wr r := by unfold Res; rw [hbw.block r hsz]; exact hres
    by_cases hlt : pos < s.size
    · have hd : decide ((pos : Int) < (s.size : Int)) = true := by simp; omega
      go_wp2_with fail
      refine (one_any b pos s ts _ hsc0 hlt (by omega) (by omega)).mono ?_
      rintro e w4 hgot
      cases hone : oneR s pos s[pos] with
      | error c =>
        rw [hone] at hgot
        obtain ⟨rfl, hb5⟩ := hgot
        have HO := Lib.hid hone
        have hbb := hbw.trans hb5
        have hres4 : Res w4 r := by unfold Res; rw [hbb.block r hsz]; exact hres
        clear hone hb5 c1 c2 hb ho hsc0 hresr
        have f0 := hres4.f 0
        have f1 := hres4.f 1
        have d0 := hres4.c0
        have d1 := hres4.c1
        have hc0 := oneR_err HO.out
        have HF := Lib.hid (scanF_err (ts := ts) hlt HO.out)
        go_wp2_with fail
        refine bodyPost_ret (v := .tuple #[.slice none 0 0, .agg #[.int .i64 c, .int .i64 (pos : Int)]]) (by simp [results, Tryz.results42, go_sem, d0, d1]) rfl ?_
        rw [HN.out, HF.out]
        exact ⟨rfl, hr ▸ (((hbl.trans (hbb.mono (by omega))).setCell (by simp; omega) _).setCell (by simp; omega) _)⟩
      | ok q =>
        obtain ⟨t, j⟩ := q
        rw [hone] at hgot
        obtain ⟨rfl, hsc5, hb5⟩ := hgot
        have hbd := oneR_bd hlt hone
        have hk := skipPos_ge s j hbd.2
        have HF := Lib.hid (scanF_ok (ts := ts) hlt hone)
        clear hone c1 c2 hb ho hsc0 hresr
        go_wp2_with fail
        refine (skip_sc b j s _ _ hsc5 hbd.2 (by omega)).mono ?_
        rintro e w5 ⟨rfl, hsc6, hb6⟩
        generalize skipPos s j = q at *
        go_wp2_with fail
        go_roundg (s.size - q)
        case measure => have := HG.out; omega
        case rel => exact ⟨q, ts ++ [t], hk.2, rfl, by simp; omega, hsc6, (hbw.trans hb5).trans hb6, HN.out.trans HF.out⟩
    · have hd : decide ((pos : Int) < (s.size : Int)) = false := by simp; omega
      have HF := Lib.hid (scanF_end (ts := ts) hlt)
      go_wp2_with fail
      refine (put_any b s pos ts 0 0 ⟨#[]⟩ s.size _ hsc0 (by omega) (.inr (.inr (by decide)))).mono ?_
      rintro e w4 ⟨rfl, hsc5, hb5⟩
      obtain ⟨v4, hb6, ho6⟩ := hsc5
      have hbb := hbw.trans hb5
      have hres4 : Res w4 r := by unfold Res; rw [hbb.block r hsz]; exact hres
      rw [List.length_append] at ho6
      obtain ⟨g, cap, hv⟩ := owned_some ho6
      rw [hv] at ho6 hb6
      clear hv c1 c2 hb ho hsc0 hresr hb5
      have f0 := hres4.f 0
      have f1 := hres4.f 1
      have d0 := hres4.c0
      have d1 := hres4.c1
      have c2 := hb6.c2
      have hsz4 : r < w4.heap.size := by have := hb6.lt; omega
      have hbl4 := hbl.trans (hbb.mono (by omega))
      have HO6 := Lib.hid ho6
      clear ho6 hbb hbw
      go_wp2_with fail
      refine bodyPost_ret (v := .tuple #[.slice (some ⟨g, 0, none⟩) (ts.length + 1) cap, .agg #[.int .i64 0, .int .i64 0]]) (by simp [results, Tryz.results42, go_sem, d0, d1]) rfl ?_
      rw [HN.out, HF.out]
      refine ⟨_, rfl, ?_, hr ▸ ((hbl4.setCell (by simp; omega) _).setCell (by simp; omega) _)⟩
      have ho7 := ownsRow_setCell_below (ownsRow_setCell_below HO6.out (a := ⟨r, 0, none⟩) (by simp; omega) (.int .i64 0)) (a := ⟨r, 1, none⟩) (by simp; omega) (.int .i64 0)
      rw [List.length_append, hr]
      exact ownsRow_base ho7 (by omega)

/-- WHAT 'Scan' DOES, at every text. -/
theorem scan_any (s : ByteArray) (w : World) (hs : s.size ≤ maxLen) : Calls Tryz.prog 42 #[.string s] w (Scanned w (scanP s)) := by
  by_cases h : 60000 < s.size
  · exact scan_limit s w h hs
  · by_cases hsp : 0 ≤ spoilP s
    · exact scan_spoiled s w h hsp
    · exact scan_main s w h hsp
end Go.Proofs.YtijcobeebaceoaaGreatDoor.Lx
namespace Go.Proofs.YtijcobeebaceoaaGreatDoor.Lx
set_option maxRecDepth 20000
open Go.RowKit

/-- A token of a list: its kind, its bytes, its number, how many bytes are left where it begins. -/
abbrev LTok := Int × List UInt8 × Int × Nat
def putL (kind : Int) (x : List UInt8) (n : Int) (r : List UInt8) : Except Int (Int × List UInt8 × Int × List UInt8) :=
  if kind ≠ 3 ∧ kind ≠ 4 ∧ 40 < x.length then .error 104 else .ok (kind, x, n, r)
def kindL (x : List UInt8) : Int := if keyList.contains x = true then 6 else if (x == [95]) = true then 7 else if (match x with | [] => false | c :: _ => upB c) = true then 2 else 1
/-- The token at the head of a list, and what follows it. -/
def oneL (l : List UInt8) : Except Int (Int × List UInt8 × Int × List UInt8) :=
  match l with
  | [] => .error 101
  | c :: r =>
    if lowB c = true ∨ upB c = true then putL (kindL (l.takeWhile insideB)) (l.takeWhile insideB) 0 (l.dropWhile insideB)
    else if digitB c = true then
      (match parseD (numText (l.takeWhile digitB)) with
       | none => .error 102
       | some n => putL 3 (numText (l.takeWhile digitB)) n (l.dropWhile digitB))
    else if c.toNat = 34 then
      (match textL r with
       | none => .error 103
       | some (x, r') => putL 4 x 0 r')
    else if symB c = true then putL (if markList.contains (l.takeWhile symB) = true then 7 else 5) (l.takeWhile symB) 0 (l.dropWhile symB)
    else if markList.contains [c] = true then putL 7 [c] 0 r
    else .error 101
def scanL : Nat → List UInt8 → Except (Int × Nat) (List LTok)
  | 0, _ => .ok [(0, [], 0, 0)]
  | f + 1, l =>
    match l with
    | [] => .ok [(0, [], 0, 0)]
    | c :: r =>
      match oneL (c :: r) with
      | .error e => .error (e, (c :: r).length)
      | .ok (k, x, n, r') =>
        match scanL f (skipC false r') with
        | .error e => .error e
        | .ok ts => .ok ((k, x, n, (c :: r).length) :: ts)

def toTok (size : Nat) (t : LTok) : Tok := ⟨t.1, textOf t.2.1, t.2.2.1, size - t.2.2.2⟩
def liftOne (s : ByteArray) (k : Nat) (o : Except Int (Int × List UInt8 × Int × List UInt8)) : Except Int (Tok × Nat) :=
  match o with
  | .error e => .error e
  | .ok (kind, x, n, r) => .ok (⟨kind, textOf x, n, k⟩, s.size - r.length)

theorem text_eq {s : ByteArray} {x : List UInt8} (h : s.data.toList = x) : s = textOf x := by
  subst h
  rfl
theorem adv_pos (p : UInt8 → Bool) (s : ByteArray) (k : Nat) (h : k ≤ s.size) : s.size - ((s.data.toList.drop k).dropWhile p).length = adv p s k := by
  have h1 := adv_drop p s k
  have h2 := adv_le p s k h
  have hl : s.data.toList.length = s.size := rfl
  rw [← h1, List.length_drop]
  omega
theorem put_lift (s : ByteArray) (k j : Nat) (kind n : Int) (x r : List UInt8) (hj : s.size - r.length = j) : liftOne s k (putL kind x n r) = putR kind (textOf x) n k j := by
  unfold putL putR liftOne
  have hsz : ((textOf x).size : Int) = (x.length : Int) := by rw [textOf_size]
  by_cases h : kind ≠ 3 ∧ kind ≠ 4 ∧ 40 < x.length
  · rw [if_pos h, if_pos (by omega)]
  · rw [if_neg h, if_neg (by omega)]
    simp only [hj]
theorem kind_lift (x : List UInt8) : kindW (textOf x) = kindL x := by
  unfold kindW kindL keyB headB
  rw [textOf_toList, textOf_data]
  rfl
theorem one_lift (s : ByteArray) (k : Nat) (h : k < s.size) : oneR s k s[k] = liftOne s k (oneL (s.data.toList.drop k)) := by
  have hl : s.data.toList.length = s.size := rfl
  have hin : ∀ p, s.extract k (adv p s k) = textOf ((s.data.toList.drop k).takeWhile p) := fun p => text_eq (adv_text p s k)
  have hone : s.extract k (k + 1) = textOf [s[k]] := text_eq (by rw [Lib.extract_data, Nat.add_sub_cancel_left, drop_at s k h]; rfl)
  have hmark : ∀ x, markB (textOf x) = markList.contains x := fun x => by unfold markB; rw [textOf_toList]
  have hd := drop_at s k h
  have key : oneL (s.data.toList.drop k) = oneL (s[k] :: s.data.toList.drop (k + 1)) := by rw [hd]
  rw [key]
  unfold oneR oneL
  simp only
  by_cases h1 : lowB s[k] = true ∨ upB s[k] = true
  · rw [if_pos h1, if_pos h1]
    unfold wordR
    rw [hin, kind_lift, ← hd]
    exact (put_lift s k _ _ _ _ _ (adv_pos insideB s k (by omega))).symm
  · rw [if_neg h1, if_neg h1]
    by_cases h2 : digitB s[k] = true
    · rw [if_pos h2, if_pos h2]
      unfold numR numOf
      rw [← hd]
      cases parseD (numText ((s.data.toList.drop k).takeWhile digitB)) with
      | none => rfl
      | some n => exact (put_lift s k _ _ _ _ _ (adv_pos digitB s k (by omega))).symm
    · rw [if_neg h2, if_neg h2]
      by_cases h3 : s[k].toNat = 34
      · rw [if_pos h3, if_pos h3]
        unfold textR textOfR
        cases textL (s.data.toList.drop (k + 1)) with
        | none => rfl
        | some p => exact (put_lift s k _ _ _ _ _ rfl).symm
      · rw [if_neg h3, if_neg h3]
        by_cases h4 : symB s[k] = true
        · rw [if_pos h4, if_pos h4]
          unfold symR
          rw [hin, hmark, ← hd]
          exact (put_lift s k _ _ _ _ _ (adv_pos symB s k (by omega))).symm
        · rw [if_neg h4, if_neg h4, hone, hmark]
          by_cases h5 : markList.contains [s[k]] = true
          · rw [if_pos h5, if_pos h5]
            exact (put_lift s k _ _ _ _ _ (by rw [List.length_drop]; omega)).symm
          · rw [if_neg h5, if_neg h5]
            rfl

def liftScan (size : Nat) (ts : List Tok) (o : Except (Int × Nat) (List LTok)) : Except (Int × Nat) (List Tok) :=
  match o with
  | .error (c, m) => .error (c, size - m)
  | .ok l => .ok (ts ++ l.map (toTok size))

theorem skipC_suffix : ∀ (b : Bool) (l : List UInt8), ∃ n, skipC b l = l.drop n
  | _, [] => ⟨0, by simp [skipC]⟩
  | true, c :: r => by
    simp only [skipC]
    split
    · obtain ⟨n, h⟩ := skipC_suffix false r; exact ⟨n + 1, by simpa using h⟩
    · obtain ⟨n, h⟩ := skipC_suffix true r; exact ⟨n + 1, by simpa using h⟩
  | false, c :: r => by
    simp only [skipC]
    split
    · obtain ⟨n, h⟩ := skipC_suffix false r; exact ⟨n + 1, by simpa using h⟩
    · split
      · obtain ⟨n, h⟩ := skipC_suffix true r; exact ⟨n + 1, by simpa using h⟩
      · exact ⟨0, rfl⟩
theorem drop_skipPos (s : ByteArray) (j : Nat) : s.data.toList.drop (skipPos s j) = skipC false (s.data.toList.drop j) := by
  obtain ⟨n, h⟩ := skipC_suffix false (s.data.toList.drop j)
  have hl : s.data.toList.length = s.size := rfl
  unfold skipPos
  rw [h, List.drop_drop, List.length_drop]
  by_cases hn : j + n ≤ s.size
  · congr 1; omega
  · rw [List.drop_eq_nil_of_le (by omega), List.drop_eq_nil_of_le (by omega)]
theorem drop_pos (s : ByteArray) (r : List UInt8) (n : Nat) (h : r = s.data.toList.drop n) : s.data.toList.drop (s.size - r.length) = r := by
  have hl : s.data.toList.length = s.size := rfl
  subst h
  rw [List.length_drop]
  by_cases hn : n ≤ s.size
  · congr 1; omega
  · rw [List.drop_eq_nil_of_le (by omega), List.drop_eq_nil_of_le (by omega)]

theorem textL_suffix : ∀ (n : Nat) (l x r : List UInt8), l.length ≤ n → textL l = some (x, r) → ∃ m, r = l.drop m
  | 0, l, x, r, hn, h => by
    have : l = [] := List.eq_nil_of_length_eq_zero (by omega)
    subst this
    cases h
  | n + 1, [], x, r, hn, h => by cases h
  | n + 1, c :: l, x, r, hn, h => by
    rw [textL_cons] at h
    simp only [List.length_cons] at hn
    split at h
    · cases h; exact ⟨1, rfl⟩
    · split at h
      · cases h
      · split at h
        · cases l with
          | nil => cases h
          | cons d l' =>
            simp only at h
            split at h
            · cases h
            · cases h2 : textL l' with
              | none => rw [h2] at h; cases h
              | some p =>
                rw [h2] at h
                obtain ⟨m, hm⟩ := textL_suffix n l' p.1 p.2 (by simp only [List.length_cons] at hn; omega) h2
                cases h
                exact ⟨m + 2, by simpa using hm⟩
        · cases h2 : textL l with
          | none => rw [h2] at h; cases h
          | some p =>
            rw [h2] at h
            obtain ⟨m, hm⟩ := textL_suffix n l p.1 p.2 (by omega) h2
            cases h
            exact ⟨m + 1, by simpa using hm⟩
theorem putL_rest {kind kind' n n' : Int} {x x' r r' : List UInt8} (h : putL kind x n r = .ok (kind', x', n', r')) : r = r' ∧ kind = kind' ∧ x = x' ∧ n = n' := by
  unfold putL at h
  split at h
  · cases h
  · cases h; exact ⟨rfl, rfl, rfl, rfl⟩
theorem dropWhile_suffix (p : UInt8 → Bool) (c : UInt8) (r : List UInt8) (h : p c = true) : ∃ m, (c :: r).dropWhile p = r.drop m := by
  rw [List.dropWhile_cons_of_pos h, ← drop_takeWhile]
  exact ⟨_, rfl⟩
theorem oneL_suffix {c : UInt8} {l : List UInt8} {k n : Int} {x r : List UInt8} (h : oneL (c :: l) = .ok (k, x, n, r)) : ∃ m, r = l.drop m := by
  unfold oneL at h
  simp only at h
  split at h
  · rename_i hc
    rw [← (putL_rest h).1]
    exact dropWhile_suffix insideB c l (by rcases hc with hc | hc <;> simp [insideB, hc])
  · split at h
    · rename_i hd
      split at h
      · cases h
      · rw [← (putL_rest h).1]
        exact dropWhile_suffix digitB c l hd
    · split at h
      · split at h
        · cases h
        · rename_i hx
          rw [← (putL_rest h).1]
          exact textL_suffix _ _ _ _ (Nat.le_refl _) hx
      · split at h
        · rename_i hs
          rw [← (putL_rest h).1]
          exact dropWhile_suffix symB c l hs
        · split at h
          · rw [← (putL_rest h).1]
            exact ⟨0, rfl⟩
          · cases h
theorem oneL_shorter {c : UInt8} {l : List UInt8} {k n : Int} {x r : List UInt8} (h : oneL (c :: l) = .ok (k, x, n, r)) : (skipC false r).length ≤ l.length := by
  obtain ⟨m, rfl⟩ := oneL_suffix h
  have := skipC_length false (l.drop m)
  rw [List.length_drop] at this
  omega
theorem scanL_two : ∀ (f g : Nat) (l : List UInt8), l.length < f → l.length < g → scanL f l = scanL g l
  | 0, _, l, h, _ => by omega
  | _ + 1, 0, l, _, h => by omega
  | f + 1, g + 1, [], _, _ => rfl
  | f + 1, g + 1, c :: l, h, h' => by
    simp only [scanL]
    cases h1 : oneL (c :: l) with
    | error e => rfl
    | ok q =>
      obtain ⟨k, x, n, r⟩ := q
      have hs := oneL_shorter h1
      simp only [List.length_cons] at h h'
      simp only
      rw [scanL_two f g _ (by omega) (by omega)]
theorem scanL_more (f : Nat) (l : List UInt8) (h : l.length < f) : scanL f l = scanL (l.length + 1) l := scanL_two _ _ _ h (by omega)

theorem scan_lift (s : ByteArray) : ∀ (f pos : Nat) (ts : List Tok), pos ≤ s.size → s.size - pos < f → scanF s f pos ts = liftScan s.size ts (scanL f (s.data.toList.drop pos))
  | 0, pos, ts, _, h => by omega
  | f + 1, pos, ts, hp, h => by
    have hl : s.data.toList.length = s.size := rfl
    by_cases hlt : pos < s.size
    · simp only [scanF, hlt, dif_pos]
      rw [one_lift s pos hlt, drop_at s pos hlt]
      simp only [scanL]
      cases h1 : oneL (s[pos] :: s.data.toList.drop (pos + 1)) with
      | error e =>
        simp only [liftOne, liftScan, List.length_cons, List.length_drop, hl]
        have : s.size - (s.size - (pos + 1) + 1) = pos := by omega
        rw [this]
      | ok q =>
        obtain ⟨k, x, n, r⟩ := q
        obtain ⟨m, hm⟩ := oneL_suffix h1
        rw [List.drop_drop] at hm
        have hr := drop_pos s r _ hm
        simp only [liftOne]
        have hrl : r.length ≤ s.size - (pos + 1) := by
          rw [hm, List.length_drop]; omega
        have hj : pos < s.size - r.length := by omega
        have hk := skipPos_ge s (s.size - r.length) (by omega)
        rw [scan_lift s f _ _ hk.2 (by omega), drop_skipPos, hr]
        cases scanL f (skipC false r) with
        | error e => rfl
        | ok l =>
          simp only [liftScan, List.map_cons, List.append_assoc, List.singleton_append, toTok, List.length_cons, List.length_drop, hl]
          have : s.size - (s.size - (pos + 1) + 1) = pos := by omega
          rw [this]
    · have e : s.data.toList.drop pos = [] := List.drop_eq_nil_of_le (by omega)
      simp only [scanF, hlt, dif_neg, not_false_eq_true, e, scanL, liftScan, List.map_cons, List.map_nil, toTok, endTok]
      rfl

/-- All tokens of a list. -/
def scanAll (l : List UInt8) : Except (Int × Nat) (List LTok) := scanL (l.length + 1) (skipC false l)
theorem scanAll_lift (s : ByteArray) : scanF s (s.size + 1) (skipPos s 0) [] = liftScan s.size [] (scanAll s.data.toList) := by
  have hk := skipPos_ge s 0 (Nat.zero_le _)
  rw [scan_lift s _ _ _ hk.2 (by omega), drop_skipPos]
  rfl
theorem scanAll_eq (l : List UInt8) (f : Nat) (h : (skipC false l).length < f) : scanL f (skipC false l) = scanAll l := by
  unfold scanAll
  rw [scanL_more f _ h, scanL_more (l.length + 1) _ (by have := skipC_length false l; omega)]
end Go.Proofs.YtijcobeebaceoaaGreatDoor.Lx
namespace Go.Proofs.YtijcobeebaceoaaGreatDoor.Lx
set_option maxRecDepth 20000
open Go.RowKit

def byteN (l : List UInt8) (k : Nat) : Nat := (l.getD k 0).toNat
def decL (l : List UInt8) : Nat × Nat := Lib.decodeN l.length (byteN l 0) (byteN l 1) (byteN l 2) (byteN l 3)
def badL (l : List UInt8) : Bool := ((decL l).1 : Int) == 65533 && !Lib.hasPrefix l [239, 191, 189]
/-- How many bytes are left where the first byte stands that is no UTF-8. -/
def spoilL : Nat → List UInt8 → Option Nat
  | 0, _ => none
  | f + 1, l => if l = [] then none else if badL l = true then some l.length else spoilL f (l.drop (decL l).2)

theorem get_byte (s : ByteArray) (i k : Nat) : (s.get! (i + k)).toNat = byteN (s.data.toList.drop i) k := by
  unfold byteN
  have : s.get! (i + k) = (s.data.toList.drop i).getD k 0 := by
    rw [List.getD_eq_getElem?_getD, List.getElem?_drop, Array.getElem?_toList]
    by_cases h : i + k < s.data.size
    · rw [show s.get! (i + k) = s.data[i + k]! from rfl, getElem!_pos s.data (i + k) h, Array.getElem?_eq_getElem h]
      rfl
    · rw [show s.get! (i + k) = s.data[i + k]! from rfl, getElem!_neg s.data (i + k) h, Array.getElem?_eq_none (by omega)]
      rfl
  rw [this]
theorem dec_lift (s : ByteArray) (i : Nat) : Utf8.decode s i = decL (s.data.toList.drop i) := by
  rw [Lib.decode_at]
  unfold decL
  have h0 := get_byte s i 0
  rw [Nat.add_zero] at h0
  rw [h0, get_byte s i 1, get_byte s i 2, get_byte s i 3, List.length_drop]
  rfl
theorem bad_lift (s : ByteArray) (i : Nat) : badAt s i = badL (s.data.toList.drop i) := by
  unfold badAt badL
  have hl : s.data.toList.length = s.size := rfl
  rw [dec_lift, Lib.extract_data, List.take_of_length_le (by rw [List.length_drop]; omega)]
theorem spoil_lift (s : ByteArray) : ∀ (f pos : Nat), spoilF s f pos = match spoilL f (s.data.toList.drop pos) with | none => -1 | some m => ((s.size - m : Nat) : Int)
  | 0, pos => rfl
  | f + 1, pos => by
    have hl : s.data.toList.length = s.size := rfl
    by_cases h : pos < s.size
    · have hne : s.data.toList.drop pos ≠ [] := by rw [drop_at s pos h]; simp
      simp only [spoilF, spoilL, h, if_true, hne, if_false, bad_lift]
      by_cases hb : badL (s.data.toList.drop pos) = true
      · simp only [hb, if_true, List.length_drop, hl]
        have : s.size - (s.size - pos) = pos := by omega
        rw [this]
      · simp only [hb, if_false, List.drop_drop, dec_lift, Bool.false_eq_true]
        exact spoil_lift s f _
    · have he : s.data.toList.drop pos = [] := List.drop_eq_nil_of_le (by omega)
      simp [spoilF, spoilL, h, he]

theorem decL_width (c : UInt8) (r : List UInt8) : 1 ≤ (decL (c :: r)).2 ∧ (decL (c :: r)).2 ≤ (c :: r).length := by
  unfold decL Lib.decodeN
  simp only [List.length_cons]
  repeat' split
  all_goals simp only
  all_goals omega
theorem decL_sep (b : List UInt8) (c : UInt8) (r : List UInt8) : decL (c :: r ++ 10 :: b) = decL (c :: r) := by
  match r with
  | [] => simp [decL, byteN, Lib.decodeN]
  | [c1] => simp [decL, byteN, Lib.decodeN]
  | [c1, c2] => simp [decL, byteN, Lib.decodeN]
  | c1 :: c2 :: c3 :: r => simp [decL, byteN, Lib.decodeN]
theorem badL_sep (b : List UInt8) (c : UInt8) (r : List UInt8) : badL (c :: r ++ 10 :: b) = badL (c :: r) := by
  unfold badL
  rw [decL_sep]
  congr 2
  match r with
  | [] => simp [Lib.hasPrefix, List.isPrefixOf]
  | [c1] => simp [Lib.hasPrefix, List.isPrefixOf]
  | c1 :: c2 :: r => simp [Lib.hasPrefix, List.isPrefixOf]

theorem spoilL_two : ∀ (f g : Nat) (l : List UInt8), l.length < f → l.length < g → spoilL f l = spoilL g l
  | 0, _, l, h, _ => by omega
  | _ + 1, 0, l, _, h => by omega
  | f + 1, g + 1, [], _, _ => rfl
  | f + 1, g + 1, c :: l, h, h' => by
    have hw := decL_width c l
    simp only [List.length_cons] at h h' hw
    simp only [spoilL]
    rw [spoilL_two f g _ (by rw [List.length_drop, List.length_cons]; omega) (by rw [List.length_drop, List.length_cons]; omega)]
def spoilAll (l : List UInt8) : Option Nat := spoilL (l.length + 1) l
theorem spoilP_lift (s : ByteArray) : spoilP s = match spoilAll s.data.toList with | none => -1 | some m => ((s.size - m : Nat) : Int) := spoil_lift s (s.size + 1) 0

theorem spoilAll_cons (c : UInt8) (r : List UInt8) : spoilAll (c :: r) = if badL (c :: r) = true then some (c :: r).length else spoilAll ((c :: r).drop (decL (c :: r)).2) := by
  have hw := decL_width c r
  have : spoilAll (c :: r) = if badL (c :: r) = true then some (c :: r).length else spoilL (c :: r).length ((c :: r).drop (decL (c :: r)).2) := by
    unfold spoilAll
    simp [spoilL]
  rw [this]
  unfold spoilAll
  rw [spoilL_two _ (((c :: r).drop (decL (c :: r)).2).length + 1) _ (by rw [List.length_drop]; simp only [List.length_cons] at *; omega) (by omega)]

theorem spoil_sep (b : List UInt8) : ∀ (n : Nat) (u : List UInt8), u.length ≤ n → spoilAll (u ++ 10 :: b) = match spoilAll u with | some m => some (m + (b.length + 1)) | none => spoilAll b
  | n, [], hn => by
    have h1 : badL (10 :: b) = false := by simp [badL, decL, Lib.decodeN, byteN]
    have h2 : (decL (10 :: b)).2 = 1 := by simp [decL, Lib.decodeN, byteN]
    have h3 : spoilAll [] = none := rfl
    rw [List.nil_append, spoilAll_cons, h1, h2, h3]
    rfl
  | 0, c :: r, hn => by simp at hn
  | n + 1, c :: r, hn => by
    have hw := decL_width c r
    rw [List.cons_append, spoilAll_cons, spoilAll_cons, ← List.cons_append, badL_sep, decL_sep]
    by_cases hb : badL (c :: r) = true
    · simp only [hb, if_true, List.length_append, List.length_cons]
    · simp only [hb, if_false, Bool.false_eq_true]
      rw [List.drop_append_of_le_length hw.2]
      exact spoil_sep b n _ (by rw [List.length_drop]; simp only [List.length_cons] at *; omega)
theorem spoilL_le : ∀ (f : Nat) (l : List UInt8) (m : Nat), spoilL f l = some m → m ≤ l.length
  | 0, l, m, h => by cases h
  | f + 1, l, m, h => by
    simp only [spoilL] at h
    split at h
    · cases h
    · split at h
      · cases h; exact Nat.le_refl _
      · have := spoilL_le f _ m h
        rw [List.length_drop] at this
        omega
end Go.Proofs.YtijcobeebaceoaaGreatDoor.Lx
namespace Go.Proofs.YtijcobeebaceoaaGreatDoor.Lx
set_option maxRecDepth 20000
theorem scanP_form (s : ByteArray) (h : s.size ≤ 60000) : scanP s = match spoilAll s.data.toList with | some m => .error (100, s.size - m) | none => liftScan s.size [] (scanAll s.data.toList) := by
  unfold scanP
  rw [if_neg (by omega), spoilP_lift]
  cases spoilAll s.data.toList with
  | none => simp only; rw [if_neg (by omega)]; exact scanAll_lift s
  | some m => simp only; rw [if_pos (by omega)]; rfl

end Go.Proofs.YtijcobeebaceoaaGreatDoor.Lx
namespace Go.Proofs.YtijcobeebaceoaaGreatDoor
open Go.RowKit
set_option maxRecDepth 20000
set_option linter.unusedVariables false

/-- More cells are known. -/
def Kn.knows (K : Kn) (g : Nat) (cur : Array Value) : Kn := { K with M := fun b o => if b = g then cur[o]? else K.M b o }
theorem Step.knows {K : Kn} {w w' : World} (H : WR K [] w) (hb : Below w.heap.size w w') {g : Nat} {cur : Array Value} {t : TypeId} (hg : w.heap.size ≤ g) (hc : w'.heap[g]? = some (.cells cur t (0, 0))) : Step K [] w (K.knows g cur) [] w' := by
  have hmu : ∀ i, K.mu i = none := fun i => H.fresh i (Nat.zero_le _)
  have hag : ∀ b o v, (K.knows g cur).M b o = some v → w'.cell? ⟨b, o, none⟩ = some v := by
    intro b o v h
    unfold Kn.knows at h
    simp only at h
    split at h
    · rename_i e
      subst e
      simp [World.cell?, hc, h]
    · have h1 := H.agr b o v h
      have hlt : b < w.heap.size := by
        apply Decidable.byContradiction
        intro hn
        rw [H.noM (by omega)] at h
        cases h
      rw [← h1]
      exact World.cell?_of_block (hb.block b hlt)
  refine ⟨⟨fun i _ => hmu i, fun i h => by simp at h, fun i b h => (by rw [show (K.knows g cur).mu i = K.mu i from rfl, hmu i] at h; cases h), fun i ty cs h => by simp at h, fun i ks vs h => by simp at h, fun i ty sz n h => by simp at h, fun i j x y b h => by simp at h, fun i ty cs b h => by simp at h, hag⟩,
    ⟨fun b o v h => ?_, fun i b h => h, fun i b h => rfl, fun i b h => rfl, rfl⟩, ⟨hb.os, hb.tape, hb.output, hb.size, fun k hk _ => hb.block k hk⟩, fun b _ => ⟨rfl, rfl⟩, fun b o hb' _ => ?_, fun k b h => .inl h, fun b h => ?_, Nat.le_refl _⟩
  · unfold Kn.knows
    simp only
    split
    · rename_i e
      subst e
      rw [H.noM hg] at h; cases h
    · exact h
  · unfold Kn.knows
    simp only
    rw [if_neg (by omega)]
  · obtain ⟨i, x, hx, _⟩ := h
    simp at hx
def ofTok (t : Lx.Tok) : Tk := ⟨t.kind, t.text, t.n, (t.at_ : Int)⟩
theorem tokCells_get (ts : List Lx.Tok) : ∀ (i j : Nat) (h : i < ts.length), j < 4 → (Lx.tokCells ts)[i * 4 + j]? = (ts[i].cells)[j]? := by
  induction ts with
  | nil => intro i j h; simp at h
  | cons t l ih =>
    intro i j h hj
    have hc : t.cells.length = 4 := rfl
    rw [show Lx.tokCells (t :: l) = t.cells ++ Lx.tokCells l by simp [Lx.tokCells]]
    cases i with
    | zero => rw [List.getElem?_append_left (by omega)]; simp
    | succ i =>
      rw [List.getElem?_append_right (by omega), show (i + 1) * 4 + j - t.cells.length = i * 4 + j by omega, ih i j (by simpa using h) hj]
      simp
/-- What 'Scan' gives. -/
def scanV (r : Except (Int × Nat) (List Lx.Tok)) : PV × Int × Int := match r with
  | .ok ts => (tks (ts.map ofTok), 0, 0)
  | .error (c, p) => (nS, c, (p : Int))
theorem scan_sem (b : ByteArray) (hb : b.size ≤ maxLen) (hn : ∀ ts, Lx.scanP b = .ok ts → ts ≠ []) : Sem Tryz.prog 42 [.pv (sv b)] [] (.tup [.pv (scanV (Lx.scanP b)).1, .agg [.pv (iv (scanV (Lx.scanP b)).2.1), .pv (iv (scanV (Lx.scanP b)).2.2)]]) [] := by
  intro R K w us hR W hv
  have hus : us = [.string b] := by
    obtain ⟨hl, hh⟩ := hv
    match us, hl with
    | [u], _ =>
      have h0 := hh 0 (by simp) (by simp)
      simp only [List.getElem_cons_zero] at h0
      cases h0 with
      | pv h1 => cases h1; rfl
  subst hus
  refine (Lx.scan_any b w hb).mono fun e w' hs => ?_
  unfold Lx.Scanned at hs
  have hnone : ∀ p x, panOf (.tup [.pv p, .agg x]) = none := fun p x => rfl
  cases hr : Lx.scanP b with
  | ok ts =>
    rw [hr] at hs
    obtain ⟨v, rfl, ho, hbl⟩ := hs
    have hne := hn ts hr
    obtain ⟨hlen, ho | ho⟩ := ho
    · exact absurd (List.length_eq_zero_iff.1 ho.2) hne
    · obtain ⟨g, cap, cur, rfl, hg, hc, hcap, hcm, hsz, htk⟩ := ho
      refine ⟨K.knows g cur, ?_, Step.knows W hbl hg hc⟩
      unfold EndR
      rw [hnone]
      refine ⟨_, rfl, .tup _ _ rfl fun i h h' => ?_⟩
      have hi : i = 0 ∨ i = 1 := by simp at h; omega
      rcases hi with rfl | rfl
      · show VR _ (.pv (scanV (.ok ts)).1) _
        refine .pv ?_
        unfold scanV tks
        simp only
        have hl : (ts.map ofTok |>.map Tk.cells).length = ts.length := by simp
        have key : ∀ i (h : i < ts.length) j, j < 4 → cur[i * 4 + j]? = (ts[i].cells)[j]? := by
          intro i h j hj
          rw [← tokCells_get ts i j h hj, ← htk, List.getElem?_take_of_lt (by omega)]
          simp
        have hpr := PR.rows (R := (K.knows g cur).R) (M := (K.knows g cur).M) (ts.map ofTok |>.map Tk.cells) (some ⟨g, 0, none⟩) cap g 0 4 (fun i j => (cur[i * 4 + j]?).getD .nilFunc) (fun _ => rfl) (by simpa using hcap)
          (fun i h => by simp [Tk.cells]) (fun i h j hj => by
            have hi : i < ts.length := by simpa using h
            have k1 := key i hi j hj
            have k2 : j < (ts[i].cells).length := hj
            rw [List.getElem?_eq_getElem k2] at k1
            unfold Kn.knows
            simp only [if_true]
            rw [Nat.zero_add, k1]; rfl)
          (fun i h j hj => by
            have hi : i < ts.length := by simpa using h
            have hj' : j < 4 := by simpa [Tk.cells] using hj
            have k1 := key i hi j hj'
            rw [k1]
            have e : (List.map Tk.cells (List.map ofTok ts))[i] = (ofTok ts[i]).cells := by simp
            have hcase : j = 0 ∨ j = 1 ∨ j = 2 ∨ j = 3 := by omega
            rcases hcase with rfl | rfl | rfl | rfl
            all_goals
              simp only [e, Tk.cells, ofTok, Lx.Tok.cells]
              exact .lit _ rfl)
        rw [hl] at hpr
        exact hpr
      · show VR _ (.agg [.pv (iv 0), .pv (iv 0)]) _
        exact .agg _ [_, _] rfl fun i h h' => by
          have hi : i = 0 ∨ i = 1 := by simp at h; omega
          rcases hi with rfl | rfl <;> exact .pv (.lit _ rfl)
  | error p =>
    obtain ⟨c, at_⟩ := p
    rw [hr] at hs
    obtain ⟨rfl, hbl⟩ := hs
    have hag : ∀ g o v, K.M g o = some v → g < w.heap.size := by
      intro g o v h
      apply Decidable.byContradiction
      intro hn
      rw [W.noM (by omega)] at h
      cases h
    refine ⟨K, ?_, ?_⟩
    · unfold EndR
      rw [hnone]
      refine ⟨_, rfl, .tup _ [_, _] rfl fun i h h' => ?_⟩
      have hi : i = 0 ∨ i = 1 := by simp at h; omega
      rcases hi with rfl | rfl
      · exact .pv (.lit _ rfl)
      · exact .agg _ [_, _] rfl fun i h h' => by
          have hi : i = 0 ∨ i = 1 := by simp at h; omega
          rcases hi with rfl | rfl <;> exact .pv (.lit _ rfl)
    · have hmu : ∀ i, K.mu i = none := fun i => W.fresh i (Nat.zero_le _)
      exact ⟨⟨fun i _ => hmu i, fun i h => by simp at h, fun i b h => (by rw [hmu i] at h; cases h), fun i ty cs h => by simp at h, fun i ks vs h => by simp at h, fun i ty sz n h => by simp at h, fun i j x y b h => by simp at h, fun i ty cs b h => by simp at h, fun g o v h => by
          rw [← W.agr g o v h]; exact World.cell?_of_block (hbl.block g (hag g o v h))⟩,
        Ext.refl K, ⟨hbl.os, hbl.tape, hbl.output, hbl.size, fun k hk _ => hbl.block k hk⟩, fun b _ => ⟨rfl, rfl⟩, fun b o _ _ => rfl, fun k b h => .inl h, fun b h _ => h, Nat.le_refl _⟩
end Go.Proofs.YtijcobeebaceoaaGreatDoor
