/- What 'digits', 'Parse' and 'number' do at a text of digits. -/
import Derived.Test.YtnciccbgceomeaaDoorWord
namespace Go.Proofs.YtnciccbgceomeaaDoor
open Go.RowKit

/-- One digit more, as the code adds it: in 64 bits; 'true': it has been above 2^62. -/
def stepD (a : Int × Bool) (c : UInt8) : Int × Bool := if a.2 = true then a else (IntKind.u64.wrap (IntKind.u64.wrap (10 * a.1) + ((c.toNat : Int) - 48)), decide (4611686018427387904 < IntKind.u64.wrap (IntKind.u64.wrap (10 * a.1) + ((c.toNat : Int) - 48))))
theorem wrapU_bd (n : Int) : 0 ≤ IntKind.u64.wrap n ∧ IntKind.u64.wrap n < 18446744073709551616 := by
  simp [IntKind.wrap, IntKind.signed, IntKind.bits]
  omega
def foldD (l : List UInt8) : Int × Bool := l.foldl stepD (0, false)

theorem foldD_bd (l : List UInt8) : 0 ≤ (foldD l).1 ∧ (foldD l).1 < 18446744073709551616 := by
  unfold foldD
  have : ∀ (l : List UInt8) (a : Int × Bool), 0 ≤ a.1 ∧ a.1 < 18446744073709551616 → 0 ≤ (l.foldl stepD a).1 ∧ (l.foldl stepD a).1 < 18446744073709551616 := by
    intro l
    induction l with
    | nil => intro a h; exact h
    | cons c r ih =>
      intro a h
      apply ih
      unfold stepD
      split
      · exact h
      · exact wrapU_bd _
  exact this l (0, false) (by simp)

theorem foldD_snoc (s : ByteArray) (k : Nat) (h : k < s.size) : foldD (s.data.toList.take (k + 1)) = stepD (foldD (s.data.toList.take k)) s[k] := by
  unfold foldD
  rw [take_snoc s k h, List.foldl_append]
  rfl
theorem all_at {p : UInt8 → Bool} {s : ByteArray} (h : allB p s = true) (k : Nat) (hk : k < s.size) : p s[k] = true := by
  unfold allB at h
  rw [List.all_eq_true] at h
  exact h _ (mem_at s k hk)

set_option maxHeartbeats 1000000 in
theorem digits_any (s : ByteArray) (w : World) (h0 : 0 < s.size) (hs : s.size ≤ 1000000) (hz : s.size = 1 ∨ ((s[0].toNat : Int) == 48) = false) (hd : allB digitB s = true) :
    Calls Tryd.prog 65 #[.string s] w fun e w' => e = .returned (.tuple #[.int .u64 (foldD s.data.toList).1, .bool (foldD s.data.toList).2, .bool true]) ∧ w = w' := by
  have he : s.toList.isEmpty = false := by
    rw [ByteArray.toList_eq]
    obtain ⟨⟨l⟩⟩ := s
    cases l with
    | nil => exact absurd h0 (by decide)
    | cons _ _ => rfl
  have hone : decide ((1 : Int) < (s.size : Int)) = false ∨ (decide ((1 : Int) < (s.size : Int)) = true ∧ ((s[0].toNat : Int) == 48) = false) := by
    rcases hz with h | h
    · left; simp; omega
    · by_cases h1 : s.size = 1
      · left; simp; omega
      · right; exact ⟨by simp; omega, h⟩
  clear hz
  rcases hone with h1 | ⟨h1, h2⟩
  all_goals
    go_enter Tryd.func65, Tryd.ntmps65
    go_wp2_with fail
    go_loop [2, 3, 4, 5, 20] (fun n g o _ i => ∃ k : Nat, k ≤ s.size ∧ i = .int .i64 k ∧ o = .bool false ∧ n = .int .u64 (foldD (s.data.toList.take k)).1 ∧ g = .bool (foldD (s.data.toList.take k)).2) (fun _ _ _ _ i => s.size - (intOf i).toNat)
    case atStart => exact ⟨0, Nat.zero_le _, rfl, rfl, rfl, rfl⟩
    case round =>
      obtain ⟨k, hk, rfl, rfl, rfl, rfl⟩ := hrel
      by_cases hlt : k < s.size
      · have hdk := all_at hd k hlt
        have hd1 : 48 ≤ (s[k].toNat : Int) ∧ (s[k].toNat : Int) ≤ 57 := by
          simp [digitB] at hdk
          omega
        have HS := Lib.hid (foldD_snoc s k hlt)
        have hbd := foldD_bd (s.data.toList.take k)
        generalize foldD (s.data.toList.take k) = a at *
        obtain ⟨n, g⟩ := a
        obtain ⟨hlo, hhi⟩ := hd1
        obtain ⟨hb0, hb1⟩ := hbd
        simp only at hb0 hb1
        clear hdk hd
        cases g
        all_goals go_wp2_with fail
        all_goals
          go_round
          case rel => exact ⟨k + 1, by omega, by go_num, rfl, by rw [HS.out]; rfl, by rw [HS.out]; rfl⟩
          case measure => simp [intOf]; omega
      · go_wp2_with fail
        go_ret3
        rw [take_all s k hlt]
        exact ⟨rfl, rfl⟩

end Go.Proofs.YtnciccbgceomeaaDoor
