import Derived.Test.YtijcobeebaceoaaGreatDoorJx1
import Derived.Test.YtijcobeebaceoaaGreatDoorJx2
set_option linter.all false
namespace Go.Proofs.YtijcobeebaceoaaGreatDoor
open Go.RowKit
set_option maxRecDepth 100000
section
variable{S:Nat→List Shape}{E:Nat→og}{T:Nat→Et}{k m f:Nat}
theorem TG(ha:Sem Tryz.prog f [] [] (.pv (.lit (.bool true))) [])(hE:E k = {f:=f,args:=[],n:=0,fam:=m })(hS:S m=[{v:=.pv (.sym 0),m:=1 }])(hT:T k=.ext Vl):aA Tryz.prog S E T k:=by
 refine aA.ext (by rw[hE]) hT fun l r hp hr=>?_
 unfold Vl at hr;split at hr
 ·cases hr
  refine⟨?_,?_,?_,?_,?_⟩
  ·unfold uN BR
   simp only[hE,hS];exact ha
  ·simp only[hE,hS];decide
  ·simp only[hE,hS];rfl
  ·intro p hp
   rw[List.mem_singleton.1 hp];exact .lit _
  ·simp only[hE,hS]
   exact fun i hi=>by cases hi
 ·cases hr
theorem aeL(hE:E k = {f:=42,args:=[.pv (.sym 0)],n:=1,fam:=m })(hS:S m=[{v:=.tup [.pv (.sym 0),.agg [.pv (.sym 1),.pv (.sym 2)]],m:=3 }])(hT:T k=.ext Ww):aA Tryz.prog S E T k:=by
 refine aA.ext (by rw[hE]) hT fun l r hp hr=>?_
 unfold Ww at hr;split at hr
 ·rename_i b
  split at hr
  ·rename_i hb
   cases hr;refine⟨?_,?_,?_,?_,?_⟩
   ·unfold uN BR
    simp only[hE,hS];have hs:=Ke b (by unfold maxLen;omega) (fun ts h e=>by have:=hb.2;rw[h,e] at this;cases this);unfold om;cases h:Lx.scanP b with
    |ok ts=>rw[h] at hs;exact hs
    |error p=>rw[h] at hs;exact hs
   ·simp only[hE,hS];decide
   ·simp only[hE,hS];rfl
   ·have h1:NS (om (Lx.scanP b)).1:=by
     unfold om;cases h:Lx.scanP b with
     |ok ts=>
      refine .rows _ fun c hc p hp=>?_
      obtain⟨t,_,rfl⟩:=List.mem_map.1 hc;simp only[Tk.cells,List.mem_cons,List.not_mem_nil,or_false] at hp;rcases hp with rfl|rfl|rfl|rfl<;>exact .lit _
     |error p=>exact .lit _
    intro p hp;simp only[List.mem_cons,List.not_mem_nil,or_false] at hp;rcases hp with rfl|rfl|rfl
    ·exact h1
    ·exact .lit _
    ·exact .lit _
   ·simp only[hE,hS]
    exact fun i hi=>by cases hi
  ·cases hr
 ·cases hr
end
theorem aj4:RK 337:=TG (f:=6) (m:=208) Vm (by kernel_rfl) (by kernel_rfl) (by kernel_rfl)
theorem aj3:RK 338:=TG (f:=15) (m:=209) OO (by kernel_rfl) (by kernel_rfl) (by kernel_rfl)
theorem aj2:RK 339:=aeL (m:=210) (by kernel_rfl) (by kernel_rfl) (by kernel_rfl)
end Go.Proofs.YtijcobeebaceoaaGreatDoor
