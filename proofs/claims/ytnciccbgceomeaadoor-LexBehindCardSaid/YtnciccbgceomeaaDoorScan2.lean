/- The walk of 'Scan'. -/
import Derived.Test.YtnciccbgceomeaaDoorScan
namespace Go.Proofs.YtnciccbgceomeaaDoor
open Go.RowKit

set_option maxHeartbeats 1000000 in
theorem scan_spoiled (s : ByteArray) (w : World) (h : ¬ 60000 < s.size) (hsp : 0 ≤ spoilP s) : Calls Tryd.prog 7 #[.string s] w (Scanned w (scanP s)) := by
  have HR : Hid (scanP s = .error (100, (spoilP s).toNat)) := by
    show scanP s = _
    unfold scanP; rw [if_neg h, if_pos hsp]
  have hs : (s.size : Int) ≤ 60000 := by omega
  go_enter Tryd.func7, Tryd.ntmps7
  go_wp2_with fail
  refine (spoiled_any s _ (by omega)).mono ?_
  rintro e w1 ⟨rfl, hb⟩
  obtain ⟨n, hn⟩ := Int.eq_ofNat_of_zero_le hsp
  rw [hn] at HR hsp ⊢
  clear hn
  have hc0 : w1.heap[w.heap.size]? = some (.cells #[.int .i64 0, .int .i64 0] 26 (0, 0)) := by
    rw [hb.block w.heap.size (by simp)]
    exact heap_alloc_new w _
  have hf : w1.frozen? ⟨w.heap.size, 0, none⟩ = false := by simp [World.frozen?, hc0]
  have hf1 : w1.frozen? ⟨w.heap.size, 1, none⟩ = false := by simp [World.frozen?, hc0]
  have hl0 : w1.cell? ⟨w.heap.size, 0, none⟩ = some (.int .i64 0) := by simp [World.cell?, hc0]
  have hl1 : w1.cell? ⟨w.heap.size, 1, none⟩ = some (.int .i64 0) := by simp [World.cell?, hc0]
  have hbl : Below w.heap.size w w1 := ((Below.refl _ _).alloc (Nat.le_refl _) _).trans (hb.mono (by simp))
  have hsz : w.heap.size < w1.heap.size := by have := hb.size; simp at this; omega
  clear hc0 hb
  go_wp2_with fail
  refine bodyPost_ret (v := .tuple #[.slice none 0 0, .agg #[.int .i64 100, .int .i64 (n : Int)]]) (by simp [results, Tryd.results7, go_sem, hl0, hl1]) rfl ?_
  rw [HR.out]
  exact ⟨rfl, (hbl.setCell (by simp) _).setCell (by simp) _⟩

/-- 'skip', over the scanner with its tokens. -/
theorem skip_sc (b k : Nat) (s : ByteArray) (ts : List Tok) (w : World) (hsc : Sc w b s k ts) (hk : k ≤ s.size) (hs : s.size ≤ 1000000) :
    Calls Tryd.prog 22 #[.pointer (some ⟨b, 0, none⟩)] w fun e w' => e = .returned (.tuple #[]) ∧ Sc w' b s (skipPos s k) ts ∧ Below b w w' := by
  obtain ⟨v, hb, ho⟩ := hsc
  refine (skip_any b k s v w hb hk hs).mono ?_
  rintro e w' ⟨rfl, h1, h2⟩
  exact ⟨rfl, Sc.moved ho h1 h2, below_of_grown h2 (Nat.le_of_lt hb.lt)⟩

theorem ownsRow_base {w : World} {base base' : Nat} {e : TypeId} {size : Nat} {v : Value} {n : Nat} {xs : List Value} (h : w.ownsRow base e size v n xs) (hb : base' ≤ base) : w.ownsRow base' e size v n xs := by
  refine ⟨h.1, ?_⟩
  rcases h.2 with h2 | ⟨g, cap, cur, hv, hg, r⟩
  · exact .inl h2
  · exact .inr ⟨g, cap, cur, hv, by omega, r⟩

/-- The result's variable. -/
def Res (w : World) (r : Nat) : Prop := w.heap[r]? = some (.cells #[.int .i64 0, .int .i64 0] 26 (0, 0))
theorem Res.f {w : World} {r : Nat} (h : Res w r) (o : Nat) : w.frozen? ⟨r, o, none⟩ = false := by simp [World.frozen?, show w.heap[r]? = _ from h]
theorem Res.c0 {w : World} {r : Nat} (h : Res w r) : w.cell? ⟨r, 0, none⟩ = some (.int .i64 0) := by simp [World.cell?, show w.heap[r]? = _ from h]
theorem Res.c1 {w : World} {r : Nat} (h : Res w r) : w.cell? ⟨r, 1, none⟩ = some (.int .i64 0) := by simp [World.cell?, show w.heap[r]? = _ from h]

theorem putR_err {kind n : Int} {x : ByteArray} {at_ k : Nat} {c : Int} (h : putR kind x n at_ k = .error c) : c = 104 := by
  unfold putR at h
  split at h
  · cases h; rfl
  · cases h
theorem oneR_err {s : ByteArray} {k : Nat} {d : UInt8} {c : Int} (h1 : oneR s k d = .error c) : (c != 0) = true := by
  unfold oneR at h1
  split at h1
  · have := putR_err h1; subst this; rfl
  · split at h1
    · unfold numR numOf at h1
      split at h1
      · cases h1; rfl
      · have := putR_err h1; subst this; rfl
    · split at h1
      · unfold textR textOfR at h1
        split at h1
        · cases h1; rfl
        · have := putR_err h1; subst this; rfl
      · split at h1
        · have := putR_err h1; subst this; rfl
        · split at h1
          · have := putR_err h1; subst this; rfl
          · cases h1; rfl
theorem scanF_err {s : ByteArray} {pos : Nat} {ts : List Tok} (hp : pos < s.size) {c : Int} (h : oneR s pos s[pos] = .error c) : scanF s (s.size - pos + 1) pos ts = .error (c, pos) := by
  simp [scanF, hp, h]
theorem scanF_ok {s : ByteArray} {pos : Nat} {ts : List Tok} (hp : pos < s.size) {t : Tok} {j : Nat} (h : oneR s pos s[pos] = .ok (t, j)) :
    scanF s (s.size - pos + 1) pos ts = scanF s (s.size - skipPos s j + 1) (skipPos s j) (ts ++ [t]) := by
  have hb := oneR_bd hp h
  have hk := skipPos_ge s j hb.2
  have : scanF s (s.size - pos + 1) pos ts = scanF s (s.size - pos) (skipPos s j) (ts ++ [t]) := by simp [scanF, hp, h]
  rw [this]
  exact scanF_more s _ _ _ (by omega)
theorem scanF_end {s : ByteArray} {pos : Nat} {ts : List Tok} (hp : ¬ pos < s.size) : scanF s (s.size - pos + 1) pos ts = .ok (ts ++ [endTok s]) := by
  simp [scanF, hp]

set_option maxHeartbeats 2000000 in
theorem scan_main (s : ByteArray) (w : World) (h : ¬ 60000 < s.size) (hsp : ¬ 0 ≤ spoilP s) : Calls Tryd.prog 7 #[.string s] w (Scanned w (scanP s)) := by
  have HR : Hid (scanP s = scanF s (s.size + 1) (skipPos s 0) []) := by
    show scanP s = _
    unfold scanP; rw [if_neg h, if_neg hsp]
  have hs : (s.size : Int) ≤ 60000 := by omega
  have hdl : decide ((60000 : Int) < (s.size : Int)) = false := by simp; omega
  go_enter Tryd.func7, Tryd.ntmps7
  go_wp2_with fail
  refine (spoiled_any s _ (by omega)).mono ?_
  rintro e w1 ⟨rfl, hb⟩
  have hres : Res w1 w.heap.size := by
    unfold Res
    rw [hb.block w.heap.size (by simp)]
    exact heap_alloc_new w _
  have hbl : Below w.heap.size w w1 := ((Below.refl _ _).alloc (Nat.le_refl _) _).trans (hb.mono (by simp))
  have hsz : w.heap.size < w1.heap.size := by have := hb.size; simp at this; omega
  have hspn : spoilP s < 0 := by omega
  generalize spoilP s = sp at *
  have hds : decide (0 ≤ sp) = false := by simp; omega
  generalize hr : w.heap.size = r at *
  clear hb
  go_wp2_with fail
  have hsc : Sc (w1.alloc (.cells #[.string s, .int .i64 0, .slice none 0 0] 39)) w1.heap.size s 0 [] := ⟨.slice none 0 0, heap_alloc_new w1 _, World.ownsRow_nil _ _ _ _⟩
  have hb2 : Below w1.heap.size w1 (w1.alloc (.cells #[.string s, .int .i64 0, .slice none 0 0] 39)) := (Below.refl _ _).alloc (Nat.le_refl _) _
  generalize w1.alloc (.cells #[.string s, .int .i64 0, .slice none 0 0] 39) = w2 at *
  generalize w1.heap.size = b at *
  refine (skip_sc b 0 s [] _ hsc (Nat.zero_le _) (by omega)).mono ?_
  rintro e w3 ⟨rfl, hsc3, hb3⟩
  have hb4 := hb2.trans hb3
  have hpos := skipPos_ge s 0 (Nat.zero_le _)
  have HS : Hid (scanP s = scanF s (s.size - skipPos s 0 + 1) (skipPos s 0) []) := HR.out.trans (scanF_more s _ _ _ (by omega))
  clear hsc hb2 hb3 HR
  generalize skipPos s 0 = p0 at *
  go_wp2_with fail
  go_loopg [] (s.size - p0) (fun g wr => ∃ (pos : Nat) (ts : List Tok), pos ≤ s.size ∧ s.size - pos = g ∧ ts.length ≤ pos ∧ Sc wr b s pos ts ∧ Below b w1 wr ∧ scanP s = scanF s (s.size - pos + 1) pos ts)
  case atStart => exact ⟨p0, [], hpos.2, rfl, by simp, hsc3, hb4, HS.out⟩
  case round =>
    obtain ⟨pos, ts, hp, hg, hts, hsc, hbw, hscan⟩ := hrel
    have HG := Lib.hid hg
    have HN := Lib.hid hscan
    clear hg hscan hsc3 hb4 HS
    have hsc0 := hsc
    obtain ⟨v, hb, ho⟩ := hsc
    have c1 := hb.c1
    have c2 := hb.c2
    have hresr : Res wr r := by unfold Res; rw [hbw.block r hsz]; exact hres
    by_cases hlt : pos < s.size
    · have hd : decide ((pos : Int) < (s.size : Int)) = true := by simp; omega
      go_wp2_with fail
      refine (one_any b pos s ts _ hsc0 hlt (by omega) (by omega)).mono ?_
      rintro e w4 hgot
      cases hone : oneR s pos s[pos] with
      | error c =>
        rw [hone] at hgot
        obtain ⟨rfl, hb5⟩ := hgot
        have HO := Lib.hid hone
        have hbb := hbw.trans hb5
        have hres4 : Res w4 r := by unfold Res; rw [hbb.block r hsz]; exact hres
        clear hone hb5 c1 c2 hb ho hsc0 hresr
        have f0 := hres4.f 0
        have f1 := hres4.f 1
        have d0 := hres4.c0
        have d1 := hres4.c1
        have hc0 := oneR_err HO.out
        have HF := Lib.hid (scanF_err (ts := ts) hlt HO.out)
        go_wp2_with fail
        refine bodyPost_ret (v := .tuple #[.slice none 0 0, .agg #[.int .i64 c, .int .i64 (pos : Int)]]) (by simp [results, Tryd.results7, go_sem, d0, d1]) rfl ?_
        rw [HN.out, HF.out]
        exact ⟨rfl, hr ▸ (((hbl.trans (hbb.mono (by omega))).setCell (by simp; omega) _).setCell (by simp; omega) _)⟩
      | ok q =>
        obtain ⟨t, j⟩ := q
        rw [hone] at hgot
        obtain ⟨rfl, hsc5, hb5⟩ := hgot
        have hbd := oneR_bd hlt hone
        have hk := skipPos_ge s j hbd.2
        have HF := Lib.hid (scanF_ok (ts := ts) hlt hone)
        clear hone c1 c2 hb ho hsc0 hresr
        go_wp2_with fail
        refine (skip_sc b j s _ _ hsc5 hbd.2 (by omega)).mono ?_
        rintro e w5 ⟨rfl, hsc6, hb6⟩
        generalize skipPos s j = q at *
        go_wp2_with fail
        go_roundg (s.size - q)
        case measure => have := HG.out; omega
        case rel => exact ⟨q, ts ++ [t], hk.2, rfl, by simp; omega, hsc6, (hbw.trans hb5).trans hb6, HN.out.trans HF.out⟩
    · have hd : decide ((pos : Int) < (s.size : Int)) = false := by simp; omega
      have HF := Lib.hid (scanF_end (ts := ts) hlt)
      go_wp2_with fail
      refine (put_any b s pos ts 0 0 ⟨#[]⟩ s.size _ hsc0 (by omega) (.inr (.inr (by decide)))).mono ?_
      rintro e w4 ⟨rfl, hsc5, hb5⟩
      obtain ⟨v4, hb6, ho6⟩ := hsc5
      have hbb := hbw.trans hb5
      have hres4 : Res w4 r := by unfold Res; rw [hbb.block r hsz]; exact hres
      rw [List.length_append] at ho6
      obtain ⟨g, cap, hv⟩ := owned_some ho6
      rw [hv] at ho6 hb6
      clear hv c1 c2 hb ho hsc0 hresr hb5
      have f0 := hres4.f 0
      have f1 := hres4.f 1
      have d0 := hres4.c0
      have d1 := hres4.c1
      have c2 := hb6.c2
      have hsz4 : r < w4.heap.size := by have := hb6.lt; omega
      have hbl4 := hbl.trans (hbb.mono (by omega))
      have HO6 := Lib.hid ho6
      clear ho6 hbb hbw
      go_wp2_with fail
      refine bodyPost_ret (v := .tuple #[.slice (some ⟨g, 0, none⟩) (ts.length + 1) cap, .agg #[.int .i64 0, .int .i64 0]]) (by simp [results, Tryd.results7, go_sem, d0, d1]) rfl ?_
      rw [HN.out, HF.out]
      refine ⟨_, rfl, ?_, hr ▸ ((hbl4.setCell (by simp; omega) _).setCell (by simp; omega) _)⟩
      have ho7 := ownsRow_setCell_below (ownsRow_setCell_below HO6.out (a := ⟨r, 0, none⟩) (by simp; omega) (.int .i64 0)) (a := ⟨r, 1, none⟩) (by simp; omega) (.int .i64 0)
      rw [List.length_append, hr]
      exact ownsRow_base ho7 (by omega)

/-- WHAT 'Scan' DOES, at every text. -/
theorem scan_any (s : ByteArray) (w : World) (hs : s.size ≤ maxLen) : Calls Tryd.prog 7 #[.string s] w (Scanned w (scanP s)) := by
  by_cases h : 60000 < s.size
  · exact scan_limit s w h hs
  · by_cases hsp : 0 ≤ spoilP s
    · exact scan_spoiled s w h hsp
    · exact scan_main s w h hsp

end Go.Proofs.YtnciccbgceomeaaDoor
