/- 'Same' and 'at' over tokens in memory: they return true where the tokens are the same. -/
import Derived.Test.YtnciccbgceomeaaDoorScan2
namespace Go.Proofs.YtnciccbgceomeaaDoor
open Go.RowKit

/-- Tokens that lie in a block, one behind the other. -/
def Toks (w : World) (g off : Nat) (ts : List Tok) : Prop := ∀ i (h : i < ts.length),
  w.cell? ⟨g, off + i * 4, none⟩ = some (.int .i64 ts[i].kind) ∧ w.cell? ⟨g, off + i * 4 + 1, none⟩ = some (.string ts[i].text) ∧
  w.cell? ⟨g, off + i * 4 + 2, none⟩ = some (.int .i64 ts[i].n) ∧ w.cell? ⟨g, off + i * 4 + 3, none⟩ = some (.int .i64 (ts[i].at_ : Int))
theorem Toks.drewN {w : World} {g off : Nat} {ts : List Tok} (h : Toks w g off ts) (n : Nat) : Toks (w.drewN n) g off ts := h

def sameTok (a b : Tok) : Prop := a.kind = b.kind ∧ a.text = b.text ∧ a.n = b.n

set_option maxHeartbeats 1000000 in
theorem same_true (ta tb : List Tok) (n ga oa ca gb ob cb : Nat) (w : World) (hla : ta.length = n) (hlb : tb.length = n) (hm : n ≤ 1000000) (ha : Toks w ga oa ta) (hb : Toks w gb ob tb)
    (hs : ∀ i (h : i < ta.length) (h' : i < tb.length), sameTok ta[i] tb[i]) :
    Calls Tryd.prog 8 #[.slice (some ⟨ga, oa, none⟩) n ca, .slice (some ⟨gb, ob, none⟩) n cb] w fun e w' => e = .returned (.bool true) ∧ ∃ m, w' = w.drewN m := by
  have HA := Lib.hid hla
  have HB := Lib.hid hlb
  have HS := Lib.hid hs
  have HTA := Lib.hid ha
  have HTB := Lib.hid hb
  clear hla hlb hs ha hb
  go_enter Tryd.func8, Tryd.ntmps8
  go_wp2_with fail
  go_loopg [4, 5] n (fun g o i wr => ∃ k : Nat, k ≤ n ∧ o = .bool false ∧ i = .int .i64 k ∧ n - k = g ∧ ∃ m, wr = w.drewN m)
  case atStart => exact ⟨0, Nat.zero_le _, rfl, rfl, rfl, 0, rfl⟩
  case round =>
    obtain ⟨k, hk, rfl, rfl, hg, m, hwr⟩ := hrel
    have HG := Lib.hid hg
    have HW := Lib.hid hwr
    clear hg hwr
    by_cases hlt : k < n
    · have hka : k < ta.length := by have := HA.out; omega
      have hkb : k < tb.length := by have := HB.out; omega
      have ha' : Toks wr ga oa ta := by rw [HW.out]; exact HTA.out.drewN m
      have hb' : Toks wr gb ob tb := by rw [HW.out]; exact HTB.out.drewN m
      obtain ⟨a0, a1, a2, _⟩ := ha' k hka
      obtain ⟨b0, b1, b2, _⟩ := hb' k hkb
      obtain ⟨s0, s1, s2⟩ := HS.out k hka hkb
      rw [← s0] at b0
      rw [← s1] at b1
      rw [← s2] at b2
      clear s0 s1 s2 ha' hb'
      generalize (ta[k]).kind = kd at *
      generalize (ta[k]).text = tx at *
      generalize (ta[k]).n = nn at *
      go_wp2_with fail
      go_quiet (fail)
      go_wp2_with fail
      go_roundg (n - (k + 1))
      case measure => have := HG.out; omega
      case rel => exact ⟨k + 1, by omega, rfl, by go_num, rfl, m + nq, by rw [HW.out, World.drewN_drewN]⟩
    · go_wp2_with fail
      go_ret
      exact ⟨rfl, m, HW.out⟩

set_option maxHeartbeats 1000000 in
theorem at_true (ta tb : List Tok) (na nb ga oa ca gb ob cb : Nat) (mo : Int) (w : World) (hla : ta.length = na) (hlb : tb.length = nb) (hab : na ≤ nb) (hm : nb ≤ 1000000) (hm0 : 0 ≤ mo) (hmo : mo ≤ 1000000) (ha : Toks w ga oa ta) (hb : Toks w gb ob tb)
    (hbd : ∀ i (h' : i < tb.length), tb[i].at_ ≤ 1000000)
    (hs : ∀ i (h : i < ta.length) (h' : i < tb.length), (ta[i].at_ : Int) = (tb[i].at_ : Int) + mo) :
    Calls Tryd.prog 9 #[.slice (some ⟨ga, oa, none⟩) na ca, .slice (some ⟨gb, ob, none⟩) nb cb, .int .i64 mo] w fun e w' => e = .returned (.bool true) ∧ ∃ m, w' = w.drewN m := by
  have HA := Lib.hid hla
  have HB := Lib.hid hlb
  have HS := Lib.hid hs
  have HBD := Lib.hid hbd
  have HTA := Lib.hid ha
  have HTB := Lib.hid hb
  clear hla hlb hs ha hb hbd
  go_enter Tryd.func9, Tryd.ntmps9
  go_wp2_with fail
  go_loopg [6, 7, 10] na (fun g o _ i wr => ∃ k : Nat, k ≤ na ∧ o = .bool false ∧ i = .int .i64 k ∧ na - k = g ∧ ∃ m, wr = w.drewN m)
  case atStart => exact ⟨0, Nat.zero_le _, rfl, rfl, rfl, 0, rfl⟩
  case round =>
    obtain ⟨k, hk, rfl, rfl, hg, m, hwr⟩ := hrel
    have HG := Lib.hid hg
    have HW := Lib.hid hwr
    clear hg hwr
    by_cases hlt : k < na
    · have hka : k < ta.length := by have := HA.out; omega
      have hkb : k < tb.length := by have := HB.out; omega
      have ha' : Toks wr ga oa ta := by rw [HW.out]; exact HTA.out.drewN m
      have hb' : Toks wr gb ob tb := by rw [HW.out]; exact HTB.out.drewN m
      obtain ⟨_, _, _, a3⟩ := ha' k hka
      obtain ⟨_, _, _, b3⟩ := hb' k hkb
      have s0 := HS.out k hka hkb
      have s1 := HBD.out k hkb
      rw [s0] at a3
      clear s0 ha' hb'
      generalize (tb[k]).at_ = tt at *
      have hw1 : IntKind.i64.wrap ((tt : Int) + mo) = (tt : Int) + mo := IntWalk.i64_in _ (by omega)
      have hge : decide ((nb : Int) ≤ (k : Int)) = false := by simp; omega
      have hge' : decide (nb ≤ k) = false := by simp; omega
      have hkk : k < nb := by omega
      go_wp2_with fail
      go_quiet (fail)
      clear hw1
      go_wp2_with fail
      go_roundg (na - (k + 1))
      case measure => have := HG.out; omega
      case rel => exact ⟨k + 1, by omega, rfl, by go_num, rfl, m + nq, by rw [HW.out, World.drewN_drewN]⟩
    · go_wp2_with fail
      go_ret
      exact ⟨rfl, m, HW.out⟩

end Go.Proofs.YtnciccbgceomeaaDoor
