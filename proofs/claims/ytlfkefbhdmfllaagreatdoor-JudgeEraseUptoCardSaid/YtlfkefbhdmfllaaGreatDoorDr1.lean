/- How great the data are; the data out of what is read, with a bound on the bulk. Printed by dgen.py. -/
import Derived.Test.YtlfkefbhdmfllaaGreatDoorDw5
import Derived.Test.YtlfkefbhdmfllaaGreatDoorDa3
namespace Go.Proofs.YtlfkefbhdmfllaaGreatDoor
open Go.RowKit
set_option linter.unusedSimpArgs false
set_option linter.unusedVariables false

mutual
def Ty.size : Ty → Nat
  | .mk v0 v1 v2 v3 => 1 + (v1.size + 1) + 1 + (Ty.sizes v3 + 1) + 1
def Ty.sizes : List Ty → Nat
  | [] => 0
  | v :: l => v.size + Ty.sizes l
end
theorem Ty.size_eq (x : Ty) : x.size = 1 + (x.name.size + 1) + 1 + (Ty.sizes x.kids + 1) + 1 := by cases x; rw [Ty.size]; rfl
theorem Ty.sizes_eq : ∀ l, Ty.sizes l = (l.map Ty.size).sum
  | [] => by rw [Ty.sizes]; rfl
  | v :: l => by rw [Ty.sizes, Ty.sizes_eq l]; rfl
theorem Ty.size_pos (x : Ty) : 1 ≤ x.size := by rw [Ty.size_eq]; omega
theorem Ty.len_le : ∀ l : List Ty, l.length ≤ Ty.sizes l
  | [] => Nat.zero_le _
  | v :: l => by have := Ty.len_le l; have := v.size_pos; rw [Ty.sizes, List.length_cons]; omega
theorem Ty.mem_le : ∀ {l : List Ty} {x : Ty}, x ∈ l → x.size ≤ Ty.sizes l
  | v :: l, x, h => by
    rw [Ty.sizes]
    rcases List.mem_cons.1 h with rfl | h
    · omega
    · have := Ty.mem_le h; omega
mutual
def Pt.size : Pt → Nat
  | .mk v0 v1 v2 v3 v4 => 1 + (v1.size + 1) + 1 + (Pt.sizes v3 + 1) + 1 + 1
def Pt.sizes : List Pt → Nat
  | [] => 0
  | v :: l => v.size + Pt.sizes l
end
theorem Pt.size_eq (x : Pt) : x.size = 1 + (x.name.size + 1) + 1 + (Pt.sizes x.kids + 1) + 1 + 1 := by cases x; rw [Pt.size]; rfl
theorem Pt.sizes_eq : ∀ l, Pt.sizes l = (l.map Pt.size).sum
  | [] => by rw [Pt.sizes]; rfl
  | v :: l => by rw [Pt.sizes, Pt.sizes_eq l]; rfl
theorem Pt.size_pos (x : Pt) : 1 ≤ x.size := by rw [Pt.size_eq]; omega
theorem Pt.len_le : ∀ l : List Pt, l.length ≤ Pt.sizes l
  | [] => Nat.zero_le _
  | v :: l => by have := Pt.len_le l; have := v.size_pos; rw [Pt.sizes, List.length_cons]; omega
theorem Pt.mem_le : ∀ {l : List Pt} {x : Pt}, x ∈ l → x.size ≤ Pt.sizes l
  | v :: l, x, h => by
    rw [Pt.sizes]
    rcases List.mem_cons.1 h with rfl | h
    · omega
    · have := Pt.mem_le h; omega
def Pd.size : Pd → Nat
  | ⟨v0, v1⟩ => (v0.size + 1) + Ty.size v1 + 1
def Pd.sizes : List Pd → Nat
  | [] => 0
  | v :: l => v.size + Pd.sizes l
theorem Pd.size_eq (x : Pd) : x.size = (x.cls.size + 1) + Ty.size x.t + 1 := by cases x; rw [Pd.size]
theorem Pd.sizes_eq : ∀ l, Pd.sizes l = (l.map Pd.size).sum
  | [] => by rw [Pd.sizes]; rfl
  | v :: l => by rw [Pd.sizes, Pd.sizes_eq l]; rfl
theorem Pd.size_pos (x : Pd) : 1 ≤ x.size := by rw [Pd.size_eq]; omega
theorem Pd.len_le : ∀ l : List Pd, l.length ≤ Pd.sizes l
  | [] => Nat.zero_le _
  | v :: l => by have := Pd.len_le l; have := v.size_pos; rw [Pd.sizes, List.length_cons]; omega
theorem Pd.mem_le : ∀ {l : List Pd} {x : Pd}, x ∈ l → x.size ≤ Pd.sizes l
  | v :: l, x, h => by
    rw [Pd.sizes]
    rcases List.mem_cons.1 h with rfl | h
    · omega
    · have := Pd.mem_le h; omega
mutual
def Tx.size : Tx → Nat
  | .mk v0 v1 v2 v3 v4 v5 v6 v7 v8 => 1 + (v1.size + 1) + 1 + Ty.size v3 + (Ty.sizes v4 + 1) + (Tx.sizes v5 + 1) + (Ta.sizes v6 + 1) + (Tb.sizes v7 + 1) + 1 + 1
def Ta.size : Ta → Nat
  | .mk v0 v1 => Pt.size v0 + Tx.size v1 + 1
def Tb.size : Tb → Nat
  | .mk v0 v1 v2 v3 v4 => (v0.size + 1) + (szS v1 + 1) + (Pd.sizes v2 + 1) + Tx.size v3 + 1 + 1
def Tx.sizes : List Tx → Nat
  | [] => 0
  | v :: l => v.size + Tx.sizes l
def Ta.sizes : List Ta → Nat
  | [] => 0
  | v :: l => v.size + Ta.sizes l
def Tb.sizes : List Tb → Nat
  | [] => 0
  | v :: l => v.size + Tb.sizes l
end
theorem Tx.size_eq (x : Tx) : x.size = 1 + (x.name.size + 1) + 1 + Ty.size x.t + (Ty.sizes x.ts + 1) + (Tx.sizes x.kids + 1) + (Ta.sizes x.alts + 1) + (Tb.sizes x.binds + 1) + 1 + 1 := by cases x; rw [Tx.size]; rfl
theorem Tx.sizes_eq : ∀ l, Tx.sizes l = (l.map Tx.size).sum
  | [] => by rw [Tx.sizes]; rfl
  | v :: l => by rw [Tx.sizes, Tx.sizes_eq l]; rfl
theorem Tx.size_pos (x : Tx) : 1 ≤ x.size := by rw [Tx.size_eq]; omega
theorem Tx.len_le : ∀ l : List Tx, l.length ≤ Tx.sizes l
  | [] => Nat.zero_le _
  | v :: l => by have := Tx.len_le l; have := v.size_pos; rw [Tx.sizes, List.length_cons]; omega
theorem Tx.mem_le : ∀ {l : List Tx} {x : Tx}, x ∈ l → x.size ≤ Tx.sizes l
  | v :: l, x, h => by
    rw [Tx.sizes]
    rcases List.mem_cons.1 h with rfl | h
    · omega
    · have := Tx.mem_le h; omega
theorem Ta.size_eq (x : Ta) : x.size = Pt.size x.p + Tx.size x.e + 1 := by cases x; rw [Ta.size]; rfl
theorem Ta.sizes_eq : ∀ l, Ta.sizes l = (l.map Ta.size).sum
  | [] => by rw [Ta.sizes]; rfl
  | v :: l => by rw [Ta.sizes, Ta.sizes_eq l]; rfl
theorem Ta.size_pos (x : Ta) : 1 ≤ x.size := by rw [Ta.size_eq]; omega
theorem Ta.len_le : ∀ l : List Ta, l.length ≤ Ta.sizes l
  | [] => Nat.zero_le _
  | v :: l => by have := Ta.len_le l; have := v.size_pos; rw [Ta.sizes, List.length_cons]; omega
theorem Ta.mem_le : ∀ {l : List Ta} {x : Ta}, x ∈ l → x.size ≤ Ta.sizes l
  | v :: l, x, h => by
    rw [Ta.sizes]
    rcases List.mem_cons.1 h with rfl | h
    · omega
    · have := Ta.mem_le h; omega
theorem Tb.size_eq (x : Tb) : x.size = (x.name.size + 1) + (szS x.vars + 1) + (Pd.sizes x.ps + 1) + Tx.size x.e + 1 + 1 := by cases x; rw [Tb.size]; rfl
theorem Tb.sizes_eq : ∀ l, Tb.sizes l = (l.map Tb.size).sum
  | [] => by rw [Tb.sizes]; rfl
  | v :: l => by rw [Tb.sizes, Tb.sizes_eq l]; rfl
theorem Tb.size_pos (x : Tb) : 1 ≤ x.size := by rw [Tb.size_eq]; omega
theorem Tb.len_le : ∀ l : List Tb, l.length ≤ Tb.sizes l
  | [] => Nat.zero_le _
  | v :: l => by have := Tb.len_le l; have := v.size_pos; rw [Tb.sizes, List.length_cons]; omega
theorem Tb.mem_le : ∀ {l : List Tb} {x : Tb}, x ∈ l → x.size ≤ Tb.sizes l
  | v :: l, x, h => by
    rw [Tb.sizes]
    rcases List.mem_cons.1 h with rfl | h
    · omega
    · have := Tb.mem_le h; omega
section
variable {H : Type} {enc : TypeId × Value → H} {w : World} {held : Bool}
theorem u_tys : Tryz.prog.underlying 22 = some (.slice 24) := by kernel_rfl
theorem u_pts : Tryz.prog.underlying 54 = some (.slice 56) := by kernel_rfl
theorem u_pds : Tryz.prog.underlying 66 = some (.slice 117) := by kernel_rfl
theorem u_txs : Tryz.prog.underlying 25 = some (.slice 29) := by kernel_rfl
theorem u_tas : Tryz.prog.underlying 26 = some (.slice 58) := by kernel_rfl
theorem u_tbs : Tryz.prog.underlying 27 = some (.slice 68) := by kernel_rfl
theorem Ty.cells_len (x : Ty) : x.cells.length = 4 := by rw [Ty.cells_eq]; rfl
theorem Pt.cells_len (x : Pt) : x.cells.length = 5 := by rw [Pt.cells_eq]; rfl
theorem Pd.cells_len (x : Pd) : x.cells.length = 5 := by rw [Pd.cells]; rfl
theorem Tx.cells_len (x : Tx) : x.cells.length = 12 := by rw [Tx.cells_eq]; rfl
theorem Ta.cells_len (x : Ta) : x.cells.length = 17 := by rw [Ta.cells_eq]; rfl
theorem Tb.cells_len (x : Tb) : x.cells.length = 16 := by rw [Tb.cells_eq]; rfl
theorem rd_Ty : ∀ (n : Nat) (cs : List Value) (d : DataW H), rd enc Tryz.prog w held n 24 cs d → ∃ v : Ty, AllR w v.cells cs ∧ v.size ≤ Rows.uptoBulk d := by
  intro n
  induction n using Nat.strongRecOn with
  | _ n ih =>
    intro cs d h
    obtain ⟨ds, m, rfl, rfl, hl, hdl, hf⟩ := rd_struct (l := [(3, 0, 1), (9, 1, 1), (3, 2, 1), (22, 3, 1)]) (by kernel_rfl) h
    have hz : Tryz.prog.cellsOf 24 = 4 := by kernel_rfl
    rw [hz] at hl
    obtain ⟨i0, f0⟩ := hf 0 3 0 1 rfl
    obtain ⟨v0, r0, s0⟩ := rdi u_int f0
    obtain ⟨i1, f1⟩ := hf 1 9 1 1 rfl
    obtain ⟨v1, r1, s1⟩ := rds f1
    obtain ⟨i2, f2⟩ := hf 2 3 2 1 rfl
    obtain ⟨v2, r2, s2⟩ := rdi u_int f2
    obtain ⟨i3, f3⟩ := hf 3 22 3 1 rfl
    obtain ⟨v3, r3, s3⟩ := rdl Ty.cells Ty.size u_tys (by kernel_rfl) (by decide) Ty.cells_len (fun m2 cs d hm h => ih m2 (by omega) cs d h) f3
    rw [← Ty.sizes_eq] at s3
    refine ⟨.mk v0 v1 v2 v3, ?_, ?_⟩
    · rw [Ty.cells_eq]
      exact AllR.step 0 1 r0 (AllR.step 1 1 r1 (AllR.step 2 1 r2 (AllR.step 3 1 r3 (AllR.fin hl))))
    · rw [Ty.size]
      exact bulk_fields4 (by simpa using hdl) s0 s1 s2 s3
theorem rd_Pt : ∀ (n : Nat) (cs : List Value) (d : DataW H), rd enc Tryz.prog w held n 56 cs d → ∃ v : Pt, AllR w v.cells cs ∧ v.size ≤ Rows.uptoBulk d := by
  intro n
  induction n using Nat.strongRecOn with
  | _ n ih =>
    intro cs d h
    obtain ⟨ds, m, rfl, rfl, hl, hdl, hf⟩ := rd_struct (l := [(3, 0, 1), (9, 1, 1), (2, 2, 1), (54, 3, 1), (3, 4, 1)]) (by kernel_rfl) h
    have hz : Tryz.prog.cellsOf 56 = 5 := by kernel_rfl
    rw [hz] at hl
    obtain ⟨i0, f0⟩ := hf 0 3 0 1 rfl
    obtain ⟨v0, r0, s0⟩ := rdi u_int f0
    obtain ⟨i1, f1⟩ := hf 1 9 1 1 rfl
    obtain ⟨v1, r1, s1⟩ := rds f1
    obtain ⟨i2, f2⟩ := hf 2 2 2 1 rfl
    obtain ⟨v2, r2, s2⟩ := rdi u_int64 f2
    obtain ⟨i3, f3⟩ := hf 3 54 3 1 rfl
    obtain ⟨v3, r3, s3⟩ := rdl Pt.cells Pt.size u_pts (by kernel_rfl) (by decide) Pt.cells_len (fun m2 cs d hm h => ih m2 (by omega) cs d h) f3
    rw [← Pt.sizes_eq] at s3
    obtain ⟨i4, f4⟩ := hf 4 3 4 1 rfl
    obtain ⟨v4, r4, s4⟩ := rdi u_int f4
    refine ⟨.mk v0 v1 v2 v3 v4, ?_, ?_⟩
    · rw [Pt.cells_eq]
      exact AllR.step 0 1 r0 (AllR.step 1 1 r1 (AllR.step 2 1 r2 (AllR.step 3 1 r3 (AllR.step 4 1 r4 (AllR.fin hl)))))
    · rw [Pt.size]
      exact bulk_fields5 (by simpa using hdl) s0 s1 s2 s3 s4
theorem rd_Pd (n : Nat) (cs : List Value) (d : DataW H) (h : rd enc Tryz.prog w held n 117 cs d) : ∃ v : Pd, AllR w v.cells cs ∧ v.size ≤ Rows.uptoBulk d := by
  obtain ⟨ds, m, rfl, rfl, hl, hdl, hf⟩ := rd_struct (l := [(9, 0, 1), (24, 1, 4)]) (by kernel_rfl) h
  have hz : Tryz.prog.cellsOf 117 = 5 := by kernel_rfl
  rw [hz] at hl
  obtain ⟨i0, f0⟩ := hf 0 9 0 1 rfl
  obtain ⟨v0, r0, s0⟩ := rds f0
  obtain ⟨i1, f1⟩ := hf 1 24 1 4 rfl
  obtain ⟨v1, r1, s1⟩ := rd_Ty _ _ _ f1
  rw [Ty.cells_eq] at r1
  refine ⟨⟨v0, v1⟩, ?_, ?_⟩
  · rw [Pd.cells]
    exact AllR.step 0 1 r0 (AllR.step 1 4 r1 (AllR.fin hl))
  · rw [Pd.size]
    exact bulk_fields2 (by simpa using hdl) s0 s1
theorem rd_Ta0 (n : Nat) (ih : ∀ m < n, ∀ (cs : List Value) (d : DataW H), rd enc Tryz.prog w held m 29 cs d → ∃ v : Tx, AllR w v.cells cs ∧ v.size ≤ Rows.uptoBulk d) (cs : List Value) (d : DataW H) (h : rd enc Tryz.prog w held n 58 cs d) : ∃ v : Ta, AllR w v.cells cs ∧ v.size ≤ Rows.uptoBulk d := by
  obtain ⟨ds, m, rfl, rfl, hl, hdl, hf⟩ := rd_struct (l := [(56, 0, 5), (29, 5, 12)]) (by kernel_rfl) h
  have hz : Tryz.prog.cellsOf 58 = 17 := by kernel_rfl
  rw [hz] at hl
  obtain ⟨i0, f0⟩ := hf 0 56 0 5 rfl
  obtain ⟨v0, r0, s0⟩ := rd_Pt _ _ _ f0
  rw [Pt.cells_eq] at r0
  obtain ⟨i1, f1⟩ := hf 1 29 5 12 rfl
  obtain ⟨v1, r1, s1⟩ := ih m (by omega) _ _ f1
  rw [Tx.cells_eq] at r1
  refine ⟨.mk v0 v1, ?_, ?_⟩
  · rw [Ta.cells_eq]
    exact AllR.step 0 5 r0 (AllR.step 5 12 r1 (AllR.fin hl))
  · rw [Ta.size]
    exact bulk_fields2 (by simpa using hdl) s0 s1
theorem rd_Tb0 (n : Nat) (ih : ∀ m < n, ∀ (cs : List Value) (d : DataW H), rd enc Tryz.prog w held m 29 cs d → ∃ v : Tx, AllR w v.cells cs ∧ v.size ≤ Rows.uptoBulk d) (cs : List Value) (d : DataW H) (h : rd enc Tryz.prog w held n 68 cs d) : ∃ v : Tb, AllR w v.cells cs ∧ v.size ≤ Rows.uptoBulk d := by
  obtain ⟨ds, m, rfl, rfl, hl, hdl, hf⟩ := rd_struct (l := [(9, 0, 1), (65, 1, 1), (66, 2, 1), (29, 3, 12), (3, 15, 1)]) (by kernel_rfl) h
  have hz : Tryz.prog.cellsOf 68 = 16 := by kernel_rfl
  rw [hz] at hl
  obtain ⟨i0, f0⟩ := hf 0 9 0 1 rfl
  obtain ⟨v0, r0, s0⟩ := rds f0
  obtain ⟨i1, f1⟩ := hf 1 65 1 1 rfl
  obtain ⟨v1, r1, s1⟩ := rdss f1
  obtain ⟨i2, f2⟩ := hf 2 66 2 1 rfl
  obtain ⟨v2, r2, s2⟩ := rdl Pd.cells Pd.size u_pds (by kernel_rfl) (by decide) Pd.cells_len (fun m2 cs d hm h => rd_Pd _ _ _ h) f2
  rw [← Pd.sizes_eq] at s2
  obtain ⟨i3, f3⟩ := hf 3 29 3 12 rfl
  obtain ⟨v3, r3, s3⟩ := ih m (by omega) _ _ f3
  rw [Tx.cells_eq] at r3
  obtain ⟨i4, f4⟩ := hf 4 3 15 1 rfl
  obtain ⟨v4, r4, s4⟩ := rdi u_int f4
  refine ⟨.mk v0 v1 v2 v3 v4, ?_, ?_⟩
  · rw [Tb.cells_eq]
    exact AllR.step 0 1 r0 (AllR.step 1 1 r1 (AllR.step 2 1 r2 (AllR.step 3 12 r3 (AllR.step 15 1 r4 (AllR.fin hl)))))
  · rw [Tb.size]
    exact bulk_fields5 (by simpa using hdl) s0 s1 s2 s3 s4
theorem rd_Tx : ∀ (n : Nat) (cs : List Value) (d : DataW H), rd enc Tryz.prog w held n 29 cs d → ∃ v : Tx, AllR w v.cells cs ∧ v.size ≤ Rows.uptoBulk d := by
  intro n
  induction n using Nat.strongRecOn with
  | _ n ih =>
    intro cs d h
    obtain ⟨ds, m, rfl, rfl, hl, hdl, hf⟩ := rd_struct (l := [(3, 0, 1), (9, 1, 1), (2, 2, 1), (24, 3, 4), (22, 7, 1), (25, 8, 1), (26, 9, 1), (27, 10, 1), (3, 11, 1)]) (by kernel_rfl) h
    have hz : Tryz.prog.cellsOf 29 = 12 := by kernel_rfl
    rw [hz] at hl
    obtain ⟨i0, f0⟩ := hf 0 3 0 1 rfl
    obtain ⟨v0, r0, s0⟩ := rdi u_int f0
    obtain ⟨i1, f1⟩ := hf 1 9 1 1 rfl
    obtain ⟨v1, r1, s1⟩ := rds f1
    obtain ⟨i2, f2⟩ := hf 2 2 2 1 rfl
    obtain ⟨v2, r2, s2⟩ := rdi u_int64 f2
    obtain ⟨i3, f3⟩ := hf 3 24 3 4 rfl
    obtain ⟨v3, r3, s3⟩ := rd_Ty _ _ _ f3
    rw [Ty.cells_eq] at r3
    obtain ⟨i4, f4⟩ := hf 4 22 7 1 rfl
    obtain ⟨v4, r4, s4⟩ := rdl Ty.cells Ty.size u_tys (by kernel_rfl) (by decide) Ty.cells_len (fun m2 cs d hm h => rd_Ty _ _ _ h) f4
    rw [← Ty.sizes_eq] at s4
    obtain ⟨i5, f5⟩ := hf 5 25 8 1 rfl
    obtain ⟨v5, r5, s5⟩ := rdl Tx.cells Tx.size u_txs (by kernel_rfl) (by decide) Tx.cells_len (fun m2 cs d hm h => ih m2 (by omega) cs d h) f5
    rw [← Tx.sizes_eq] at s5
    obtain ⟨i6, f6⟩ := hf 6 26 9 1 rfl
    obtain ⟨v6, r6, s6⟩ := rdl Ta.cells Ta.size u_tas (by kernel_rfl) (by decide) Ta.cells_len (fun m2 cs d hm h => rd_Ta0 m2 (fun m3 h3 => ih m3 (by omega)) cs d h) f6
    rw [← Ta.sizes_eq] at s6
    obtain ⟨i7, f7⟩ := hf 7 27 10 1 rfl
    obtain ⟨v7, r7, s7⟩ := rdl Tb.cells Tb.size u_tbs (by kernel_rfl) (by decide) Tb.cells_len (fun m2 cs d hm h => rd_Tb0 m2 (fun m3 h3 => ih m3 (by omega)) cs d h) f7
    rw [← Tb.sizes_eq] at s7
    obtain ⟨i8, f8⟩ := hf 8 3 11 1 rfl
    obtain ⟨v8, r8, s8⟩ := rdi u_int f8
    refine ⟨.mk v0 v1 v2 v3 v4 v5 v6 v7 v8, ?_, ?_⟩
    · rw [Tx.cells_eq]
      exact AllR.step 0 1 r0 (AllR.step 1 1 r1 (AllR.step 2 1 r2 (AllR.step 3 4 r3 (AllR.step 7 1 r4 (AllR.step 8 1 r5 (AllR.step 9 1 r6 (AllR.step 10 1 r7 (AllR.step 11 1 r8 (AllR.fin hl)))))))))
    · rw [Tx.size]
      exact bulk_fields9 (by simpa using hdl) s0 s1 s2 s3 s4 s5 s6 s7 s8
theorem rd_Ta (n : Nat) (cs : List Value) (d : DataW H) (h : rd enc Tryz.prog w held n 58 cs d) : ∃ v : Ta, AllR w v.cells cs ∧ v.size ≤ Rows.uptoBulk d := rd_Ta0 n (fun m _ => rd_Tx m) cs d h
theorem rd_Tb (n : Nat) (cs : List Value) (d : DataW H) (h : rd enc Tryz.prog w held n 68 cs d) : ∃ v : Tb, AllR w v.cells cs ∧ v.size ≤ Rows.uptoBulk d := rd_Tb0 n (fun m _ => rd_Tx m) cs d h
end
end Go.Proofs.YtlfkefbhdmfllaaGreatDoor
