import Derived.Test.YtijcobeebaceoaaGreatDoorBaj
import Derived.Test.YtijcobeebaceoaaGreatDoorBag
set_option linter.all false
namespace Go.Proofs.YtijcobeebaceoaaGreatDoor
open Go.RowKit
def tx1:ByteArray:=⟨#[102,32,120,32,43,32,49]⟩
def tx2:ByteArray:=⟨#[92,120,32,45,62,32]⟩
def tx3:ByteArray:=⟨#[97,32,61,61,32,98,32,61,61,32,99]⟩
def tl1:List Lx.Tok:=[⟨1,⟨#[102]⟩,0,0⟩,⟨1,⟨#[120]⟩,0,2⟩,⟨5,⟨#[43]⟩,0,4⟩,⟨3,⟨#[49]⟩,1,6⟩,⟨0,⟨#[]⟩,0,7⟩]
def tl2:List Lx.Tok:=[⟨7,⟨#[92]⟩,0,0⟩,⟨1,⟨#[120]⟩,0,1⟩,⟨7,⟨#[45,62]⟩,0,3⟩,⟨0,⟨#[]⟩,0,6⟩]
def tl3:List Lx.Tok:=[⟨1,⟨#[97]⟩,0,0⟩,⟨5,⟨#[61,61]⟩,0,2⟩,⟨1,⟨#[98]⟩,0,5⟩,⟨5,⟨#[61,61]⟩,0,7⟩,⟨1,⟨#[99]⟩,0,10⟩,⟨0,⟨#[]⟩,0,11⟩]
set_option maxRecDepth 100000 in
theorem agH:Lx.scanP tx1=.ok tl1:=by kernel_rfl
set_option maxRecDepth 100000 in
theorem agG:Lx.scanP tx2=.ok tl2:=by kernel_rfl
set_option maxRecDepth 100000 in
theorem agF:Lx.scanP tx3=.ok tl3:=by kernel_rfl
def abg(ts:List Lx.Tok):AV×List af:=(.tup [.pv (aW (ts.map ofTok)),.agg [.pv (iv 0),.pv (iv 0)]],[])
def spS(b:ByteArray):Option (AV×List af):=match LG tx1 b with
 |true=>some (abg tl1)
 |false=>match LG tx2 b with
  |true=>some (abg tl2)
  |false=>match LG tx3 b with
   |true=>some (abg tl3)
   |false=>none
def spK(f:Nat)(args:List AV)(h:List af):Option (AV×List af):=match Nat.beq f 42 with
 |true=>match args,h with
  |[.pv (.lit (.string b))],[]=>spS b
  |_,_=>none
 |false=>none
theorem JC(R:Nat→PV){b:ByteArray}{ts:List Lx.Tok}(h:Lx.scanP b=.ok ts)(hb:b.size≤maxLen)(hn:ts≠[]):fD R Tryz.prog 42 [.pv (sv b)] [] (abg ts).1 (abg ts).2:=by
 have g:=Ke b hb (fun t e=>by rw[h] at e;cases e;exact hn) R;rw[h] at g;exact g
theorem V5(R:Nat→PV):dz R Tryz.prog spK:=by
 intro f args h v h' he;unfold spK at he;split at he
 ·rename_i hf
  have hf:=Nat.eq_of_beq_eq_true hf;subst hf;split at he
  ·rename_i b
   unfold spS at he;split at he
   ·rename_i hs
    have:=xN hs;subst this;cases he;exact JC R agH (by decide) (by simp[tl1])
   ·split at he
    ·rename_i hs
     have:=xN hs;subst this;cases he;exact JC R agG (by decide) (by simp[tl2])
    ·split at he
     ·rename_i hs
      have:=xN hs;subst this;cases he;exact JC R agF (by decide) (by simp[tl3])
     ·cases he
  ·cases he
 ·cases he
end Go.Proofs.YtijcobeebaceoaaGreatDoor
