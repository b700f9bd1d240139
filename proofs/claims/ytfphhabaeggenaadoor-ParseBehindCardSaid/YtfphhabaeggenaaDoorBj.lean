/- Joined texts. -/
import Derived.Test.YtfphhabaeggenaaDoorBc
import Derived.Test.YtfphhabaeggenaaDoorProg
import Derived.KernelRfl
import Derived.Test.YtfphhabaeggenaaDoorBy
import Derived.Test.YtfphhabaeggenaaDoorBm
import Derived.Test.YtfphhabaeggenaaDoorBi
set_option linter.all false
namespace Go.Proofs.YtfphhabaeggenaaDoor
def keepT:Nat→List Nat
 |3=>[12,0,18,1,26,25,27,5,6,37,36,38,39,40,44,55,9,7,69,10,4]
 |8=>[0,1,2,3,32,5,37,51,6,56,70,7,75,89,4]
 |9=>[0,1,2,3,59,5,64,78,6,83,115,4]
 |11=>[0,25,4,5,3,8,53,7,9,67,66,68,10,6,77,76,78,75,12,13,89,14,2]
 |13=>[0,9,19,3,29,39,2]
 |14=>[0,1,2,3,35,5,40,71,4]
 |15=>[0,1,2,3,34,5,39,70,4]
 |16=>[0,1,2,3,27,5,32,63,4]
 |17=>[0,1,10,5,14,41,4]
 |19=>[0,1,2,3,33,5,38,52,4]
 |20=>[0,10,3,4,15,5,29,7,39,6,2]
 |24=>[0,12,3,2,30,37,4,5,70,6,7]
 |27=>[0,17,16,18,15,8,6,29,11,12,9,10,44,57,7,5,14,84,2,3,4]
 |32=>[0,3,19,4,5,38,6,54,56,2]
 |33=>[0,3,17,4,25,27,5,2]
 |34=>[0,3,16,4,5,33,38,2]
 |37=>[0,1,10,5,14,25,4]
 |38=>[0,1,10,5,14,26,4]
 |39=>[0,6,8,7,4,3,19,2]
 |40=>[0,25]
 |45=>[0,16,5,7,30,6,1,4]
 |46=>[0,9,3,19,2]
 |52=>[0,9,3,2]
 |56=>[0,1,32,5,4]
 |64=>[0,27,5,44,45,4,3,59,61,79,6,91,2]
 |67=>[0,1,6,5,30,4]
 |69=>[0,9,2,17,3]
 |76=>[0,3,19,4,2]
 |77=>[0,1,13,4]
 |78=>[4,0,9,5,16,2,3]
 |79=>[0,7,1,12,4]
 |80=>[0,9,1,5,18,6,4]
 |81=>[0,17,20,19,21,5,32,3,34,2,4]
 |90=>[1,160,0,171,175,177,176,6,181,5,183,7,8,9,26,33,11,43,12,51,64,10,98,13,108,124,14,15,139,16,143,156,4]
 |_=>[]
def sd4:Nat→List (Nat×Bool)
 |9=>[]
 |_=>[]
def sd8:Nat→List (Nat×Bool)
 |6=>[(0,true),(1,true),(2,true),(3,true),(4,true),(5,true),(6,true),(7,true),(8,true),(9,true),(10,false),(11,true)]
 |11=>[(0,true),(1,true),(2,true),(3,true),(4,true),(5,true),(6,true),(7,true),(8,true),(9,true),(10,false),(11,true)]
 |16=>[(0,true),(1,true),(2,true),(3,true),(4,true),(5,true),(6,true),(7,true),(8,true),(9,true),(10,false),(11,true)]
 |_=>[]
def sd9:Nat→List (Nat×Bool)
 |6=>[(0,true),(1,true),(2,true),(3,true),(4,true),(5,true),(6,true),(7,true),(8,true),(9,true),(10,false),(11,true)]
 |11=>[(0,true),(1,true),(2,true),(3,true),(4,true),(5,true),(6,true),(7,true),(8,true),(9,true),(10,true),(11,true),(12,false),(13,true),(14,true),(15,true),(16,true),(17,true),(18,true),(19,true),(20,true),(21,true),(22,true),(23,true),(24,true),(25,true),(26,true),(27,false),(28,true),(29,true)]
 |_=>[]
def sd10:Nat→List (Nat×Bool)
 |3=>[(0,true),(1,true),(2,false),(3,false)]
 |_=>[]
def sd11:Nat→List (Nat×Bool)
 |24=>[(0,true),(1,true),(2,true),(3,true),(4,true),(5,true),(6,true),(7,true),(8,true),(9,true),(10,true),(11,true),(12,true),(13,true),(14,false),(15,true),(16,false)]
 |_=>[]
def sd12:Nat→List (Nat×Bool)
 |3=>[(0,true),(1,true),(2,false),(3,false)]
 |_=>[]
def sd13:Nat→List (Nat×Bool)
 |6=>[(0,true),(1,true),(2,true),(3,false),(4,false),(5,false),(6,true),(7,false)]
 |8=>[(0,true),(1,true),(2,true),(3,false),(4,false),(5,false),(6,true),(7,false)]
 |10=>[(0,true),(1,true),(2,true),(3,false),(4,false),(5,false),(6,true),(7,false)]
 |4=>[(0,true),(1,true),(2,true),(3,false),(4,false),(5,false),(6,true),(7,false)]
 |_=>[]
def sd14:Nat→List (Nat×Bool)
 |6=>[(0,true),(1,true),(2,true),(3,true),(4,true),(5,true),(6,true),(7,true),(8,true),(9,true),(10,true),(11,true),(12,true),(13,true),(14,true),(15,true),(16,true),(17,true),(18,true),(19,true),(20,true),(21,true),(22,true),(23,true),(24,true),(25,true),(26,false),(27,true),(28,true)]
 |_=>[]
def sd15:Nat→List (Nat×Bool)
 |6=>[(0,true),(1,true),(2,true),(3,true),(4,true),(5,true),(6,true),(7,true),(8,true),(9,true),(10,true),(11,true),(12,true),(13,true),(14,true),(15,true),(16,true),(17,true),(18,true),(19,true),(20,true),(21,true),(22,true),(23,true),(24,true),(25,true),(26,false),(27,true),(28,true)]
 |_=>[]
def sd16:Nat→List (Nat×Bool)
 |6=>[(0,true),(1,true),(2,true),(3,true),(4,true),(5,true),(6,true),(7,true),(8,true),(9,true),(10,true),(11,true),(12,true),(13,true),(14,true),(15,true),(16,true),(17,true),(18,true),(19,true),(20,true),(21,true),(22,true),(23,true),(24,true),(25,true),(26,false),(27,true),(28,true)]
 |_=>[]
def sd17:Nat→List (Nat×Bool)
 |6=>[(0,true),(1,true),(2,true),(3,true),(4,true),(5,true),(6,true),(7,true),(8,true),(9,true),(10,true),(11,true),(12,true),(13,true),(14,true),(15,true),(16,true),(17,true),(18,true),(19,true),(20,true),(21,true),(22,false),(23,true),(24,true)]
 |_=>[]
def sd19:Nat→List (Nat×Bool)
 |6=>[(0,true),(1,true),(2,true),(3,true),(4,true),(5,true),(6,true),(7,true),(8,true),(9,true),(10,false),(11,true)]
 |_=>[]
def sd21:Nat→List (Nat×Bool)
 |6=>[(0,true),(1,true),(2,false),(3,false)]
 |_=>[]
def sd23:Nat→List (Nat×Bool)
 |3=>[(0,true),(1,true),(2,true),(3,true),(4,false),(5,true),(6,false)]
 |_=>[]
def sd24:Nat→List (Nat×Bool)
 |13=>[(0,true),(1,true),(2,true),(5,true),(6,true),(3,false),(4,false),(7,true),(8,false)]
 |_=>[]
def sd25:Nat→List (Nat×Bool)
 |1=>[(0,true),(1,true),(2,true),(3,true),(4,true),(5,true),(6,true),(7,true),(8,true),(9,true),(10,false)]
 |_=>[]
def sd30:Nat→List (Nat×Bool)
 |6=>[(0,true),(1,true),(2,false),(3,false)]
 |_=>[]
def sd32:Nat→List (Nat×Bool)
 |4=>[(0,true),(1,true),(2,true),(3,false),(4,true),(5,false),(6,false),(7,true),(8,false)]
 |9=>[(0,true),(1,true),(2,true),(3,false),(4,false),(5,false),(6,true),(7,false)]
 |_=>[]
def sd33:Nat→List (Nat×Bool)
 |2=>[]
 |8=>[(0,true),(1,true),(2,true),(3,false),(4,false),(5,false),(6,true),(7,false)]
 |11=>[(0,true),(1,true),(2,true),(3,true),(4,true),(6,true),(7,true),(5,false),(8,true),(9,false),(10,false),(11,true),(12,false)]
 |_=>[]
def sd34:Nat→List (Nat×Bool)
 |2=>[]
 |5=>[(0,true),(1,true),(2,true),(3,true),(4,false),(5,true),(6,true),(7,true),(8,false),(9,false),(10,true),(11,false)]
 |10=>[(0,true),(1,true),(2,true),(3,false),(4,false),(5,false),(6,true),(7,false)]
 |_=>[]
def sd36:Nat→List (Nat×Bool)
 |3=>[(0,true),(1,true),(2,true),(4,true),(5,true),(3,false),(6,true),(7,false)]
 |_=>[]
def sd37:Nat→List (Nat×Bool)
 |6=>[(0,true),(1,true),(2,true),(3,true),(4,true),(5,true),(6,true),(7,true),(8,true)]
 |_=>[]
def sd38:Nat→List (Nat×Bool)
 |6=>[(0,true),(1,true),(2,true),(3,true),(4,true),(5,true),(6,true),(7,true),(8,false),(9,true)]
 |_=>[]
def sd40:Nat→List (Nat×Bool)
 |1=>[(0,true),(1,true),(2,true),(3,true),(4,true),(5,true),(6,true),(7,true),(8,true),(9,true),(10,true),(11,true),(12,true),(13,true),(14,true),(15,true),(16,true),(17,true),(18,true),(19,true),(20,true),(21,true)]
 |_=>[]
def sd41:Nat→List (Nat×Bool)
 |1=>[(0,true),(1,true),(2,true),(3,true),(4,true),(5,true),(6,true),(7,true),(8,true),(9,true)]
 |14=>[(0,true),(1,true),(2,true),(3,true),(4,true),(5,true),(6,true),(7,true),(8,true),(9,true),(10,true),(11,true),(12,true),(13,true),(14,false),(15,true)]
 |16=>[(0,true),(1,true),(2,true),(3,true),(4,true),(5,true),(6,true),(7,true),(8,true),(9,true),(10,true),(11,true),(12,true),(13,true),(14,true),(15,true),(16,true),(17,true),(18,true),(19,true),(20,false),(21,true)]
 |_=>[]
def sd45:Nat→List (Nat×Bool)
 |9=>[(0,true),(1,true),(2,true),(3,true),(4,true),(5,true),(7,true),(8,true),(9,true),(10,true),(11,true),(6,false),(12,true),(13,false)]
 |_=>[]
def sd46:Nat→List (Nat×Bool)
 |4=>[(0,true),(1,true),(2,true),(3,false),(4,false),(5,false),(6,true),(7,false)]
 |6=>[(0,true),(1,true),(2,true),(3,false),(4,false),(5,false),(6,true),(7,false)]
 |_=>[]
def sd54:Nat→List (Nat×Bool)
 |4=>[(0,true),(1,true),(2,false),(3,false),(4,true),(5,false)]
 |_=>[]
def sd56:Nat→List (Nat×Bool)
 |2=>[(0,true),(1,true),(2,true),(3,true),(4,true),(5,true),(6,true),(7,true),(8,true),(9,true),(10,true),(11,true),(12,true),(13,true),(14,true),(15,true),(16,true),(17,true),(18,true),(19,true),(20,true),(21,false),(22,true)]
 |4=>[(0,true),(1,true),(2,true),(3,true),(4,true),(5,true),(6,true),(7,true),(8,true),(9,true),(10,true)]
 |_=>[]
def sd64:Nat→List (Nat×Bool)
 |4=>[(0,true),(1,true),(2,true),(3,true),(4,true),(5,true),(6,true),(7,true),(8,true),(9,true)]
 |6=>[(0,true),(1,true),(2,true),(3,true),(4,true),(5,true),(6,true),(7,true),(8,true),(9,true)]
 |15=>[(0,true),(1,true),(2,true),(3,true),(4,true),(5,true),(6,true),(7,true),(8,true),(9,true)]
 |17=>[(0,true),(1,true),(2,true),(3,true),(4,true),(5,true),(6,true),(7,true),(8,true),(9,false),(10,true)]
 |_=>[]
def sd68:Nat→List (Nat×Bool)
 |9=>[]
 |_=>[]
def sd69:Nat→List (Nat×Bool)
 |5=>[(0,true),(1,true),(2,true),(3,false),(4,false),(5,false),(6,true),(7,false)]
 |_=>[]
def sd76:Nat→List (Nat×Bool)
 |5=>[(0,true),(1,true),(2,true),(3,false),(4,false),(5,false),(6,true),(7,false)]
 |_=>[]
def sd90:Nat→List (Nat×Bool)
 |6=>[(0,true),(1,true),(2,true),(3,true),(4,true),(5,true),(6,true)]
 |7=>[(0,true),(1,true),(2,true),(3,true),(4,true),(5,true),(6,true),(7,false),(8,true)]
 |14=>[(0,true),(1,true),(2,true),(3,true),(4,true),(5,true),(6,true),(7,true),(8,true),(9,true),(10,true)]
 |31=>[(0,true),(1,true),(2,true),(3,true),(4,true),(5,true),(6,true),(7,true),(8,true),(9,true),(10,true)]
 |_=>[]
def sdT:Nat→Nat→List (Nat×Bool)
 |4=>sd4
 |8=>sd8
 |9=>sd9
 |10=>sd10
 |11=>sd11
 |12=>sd12
 |13=>sd13
 |14=>sd14
 |15=>sd15
 |16=>sd16
 |17=>sd17
 |19=>sd19
 |21=>sd21
 |23=>sd23
 |24=>sd24
 |25=>sd25
 |30=>sd30
 |32=>sd32
 |33=>sd33
 |34=>sd34
 |36=>sd36
 |37=>sd37
 |38=>sd38
 |40=>sd40
 |41=>sd41
 |45=>sd45
 |46=>sd46
 |54=>sd54
 |56=>sd56
 |64=>sd64
 |68=>sd68
 |69=>sd69
 |76=>sd76
 |90=>sd90
 |_=>fun _=>[]
def sx33:Nat→Option (Sch×List Nat)
 |2=>some (.look 0 (.look 1 (.look 2 (.look 5 (.look 6 (.eff (.cons 3 (.look 4 (.look 7 (.eff (.cons 8 (.eff (.cons 9 (.done) (.nil))) (.nil))))) (.cons 8 (.eff (.cons 3 (.look 4 (.look 7 (.eff (.cons 9 (.done) (.nil))))) (.nil))) (.nil)))))))),[0,4,2])
 |_=>none
def sx34:Nat→Option (Sch×List Nat)
 |2=>some (.look 0 (.look 1 (.look 2 (.look 4 (.look 5 (.eff (.cons 3 (.look 6 (.eff (.cons 7 (.eff (.cons 8 (.done) (.nil))) (.nil)))) (.cons 7 (.eff (.cons 3 (.look 6 (.eff (.cons 8 (.done) (.nil)))) (.nil))) (.nil)))))))),[0,4,2])
 |_=>none
def sx68:Nat→Option (Sch×List Nat)
 |9=>some (.look 0 (.look 2 (.look 4 (.eff (.cons 1 (.eff (.cons 3 (.look 5 (.eff (.cons 6 (.done) (.nil)))) (.nil))) (.cons 3 (.eff (.cons 1 (.look 5 (.eff (.cons 6 (.done) (.nil)))) (.nil))) (.nil)))))),[0,6,4])
 |_=>none
def sxT:Nat→Nat→Option (Sch×List Nat)
 |33=>sx33
 |34=>sx34
 |68=>sx68
 |_=>fun _=>none
def rsT:Nat→List Nat
 |10=>[4,5]
 |11=>[2]
 |12=>[4,5]
 |54=>[2]
 |76=>[2]
 |_=>[]
def dfT(f:Nat):Bool:=([10,11,12,54,76]:List Nat).elem f
def tabT(f:Nat):FT:={keep:=keepT f,sd:=sdT f,sx:=sxT f,rs:=rsT f,df:=dfT f }
noncomputable def okFn(f:Nat):Bool:=callable Tryd.prog f && !Nat.beq f 4
theorem okFn_ok:∀f,okFn f=true→callable Tryd.prog f=true:=fun f h=>by
 unfold okFn at h;rw[Bool.and_eq_true] at h;exact h.1
set_option maxRecDepth 100000
abbrev tabB(a b:Nat):Prop:=(List.range b).all (fun i=>!okFn (a+i)||funcOk Tryd.prog tabT (a+i))=true
theorem tab_more{a b:Nat}(h:tabB 0 a)(h2:tabB a b):tabB 0 (a+b):=by
 unfold tabB at *
 simp only[Nat.zero_add] at *
 rw[List.range_add,List.all_append,h,List.all_map]
 exact h2
theorem tab_0:tabB 0 32:=by unfold tabB;kernel_rfl
theorem tab_32:tabB 32 32:=by unfold tabB;kernel_rfl
theorem tab_64:tabB 64 32:=by unfold tabB;kernel_rfl
theorem tab_96:tabB 96 19:=by unfold tabB;kernel_rfl
theorem tabT_ok:tabsOk Tryd.prog okFn tabT:=tabsOk_of (n:=115) (by kernel_rfl) (by simpa[tabB] using(tab_more (tab_more (tab_more tab_0 tab_32) tab_64) tab_96))
end Go.Proofs.YtfphhabaeggenaaDoor
namespace Go.Proofs.YtfphhabaeggenaaDoor
open Go.RowKit Go.Maps
set_option maxRecDepth 20000
theorem WR.grow{K:Kn}{h:List AObj}{w w':World}(H:WR K h w)(hf:Frm (fun _=>False) w w'):WR K h w' where
 fresh:=H.fresh
 has:=H.has
 lt:=fun i g hi=>Nat.lt_of_lt_of_le (H.lt i g hi) hf.size
 box:=fun i ty cells hi=>let ⟨g,cs,a,b,c,d⟩:=H.box i ty cells hi;⟨g,cs,a,by rw[hf.block g (H.lt i g a) id];exact b,c,d⟩
 tok:=fun t ty sz len hi=>let ⟨g,cs,a,b,c⟩:=H.tok t ty sz len hi;⟨g,cs,a,by rw[hf.block g (H.lt t g a) id];exact b,c⟩
 inj:=H.inj
 apart:=H.apart
 agr:=fun g o v hm=>by
  have h1:=H.agr g o v hm
  have hg:g<w.heap.size:=by
   apply Decidable.byContradiction
   intro hn
   have:w.heap[g]? = Option.none:=Array.getElem?_eq_none (by omega)
   unfold World.cell? at h1
   rw[this] at h1
   cases h1
  rw[←h1]
  exact World.cell?_of_block (hf.block g hg id)
 arr:=fun i ty sz p hi=>let ⟨g,cs,a,b,c⟩:=H.arr i ty sz p hi;⟨g,cs,a,by rw[hf.block g (H.lt i g a) id];exact b,c⟩
theorem Step.known{K:Kn}{h:List AObj}{w w':World}(H:WR K h w)(hf:Frm (fun _=>False) w w')(M2:Nat→Nat→Option Value)(h2:∀g o v,M2 g o=some v→w.heap.size≤g∧w'.cell? ⟨g,o,none⟩=some v) :
  ∃K',Step K h w K' h w'∧K'.R=K.R∧(∀g o v,M2 g o=some v→K'.M g o=some v)∧∀g o v,K.M g o=some v→K'.M g o=some v:=by
 have hG:=H.grow hf
 have hlow:∀g o,g<w.heap.size→M2 g o=none:=fun g o hg=>by
  cases hm:M2 g o with
  |none=>rfl
  |some v=>have:=(h2 g o v hm).1;omega
 have hno:∀g o v,K.M g o=some v→g<w.heap.size:=fun g o v hm=>by
  apply Decidable.byContradiction
  intro hn
  have h1:=H.agr g o v hm
  have:w.heap[g]? = none:=Array.getElem?_eq_none (by omega)
  unfold World.cell? at h1
  rw[this] at h1
  cases h1
 obtain⟨K',hK'⟩:∃K':Kn,K' = {M:=fun g o=>match K.M g o with|some v=>some v|none=>M2 g o,Z:=K.Z,E:=K.E,mu:=K.mu,R:=K.R,N:=K.N,gl:=fun b cs hb i v hv=>by show (match K.M b i with|some v=>some v|none=>M2 b i)=some v;rw[K.gl b cs hb i v hv] }:=⟨_,rfl⟩
 have hmu:K'.mu=K.mu:=by rw[hK']
 have hZ:K'.Z=K.Z:=by rw[hK']
 have hE:K'.E=K.E:=by rw[hK']
 have hR:K'.R=K.R:=by rw[hK']
 have hN:K'.N=K.N:=by rw[hK']
 have hM:∀g o,K'.M g o=match K.M g o with|some v=>some v|none=>M2 g o:=fun g o=>by rw[hK']
 have hold:∀g o v,K.M g o=some v→K'.M g o=some v:=fun g o v hm=>by rw[hM,hm]
 have hlt:∀g o,g<w.heap.size→K'.M g o=K.M g o:=fun g o hg=>by
  rw[hM]
  cases hm:K.M g o with
  |some v=>rfl
  |none=>exact hlow g o hg
 have hnew:∀g o v,M2 g o=some v→K'.M g o=some v:=fun g o v hm=>by
  rw[hM]
  cases hk:K.M g o with
  |none=>exact hm
  |some u=>have:=hno g o u hk;have:=(h2 g o v hm).1;omega
 have hext:Ext K K':=⟨hold,fun i g h=>by rw[hmu];exact h,fun i g _=>by rw[hZ],fun i g _=>by rw[hE],hR,fun i g _=>by rw[hN]⟩
 have hlv:∀b,K'.liveB h b→K.liveB h b:=fun b ⟨i,x,h1,h3,h4⟩=>⟨i,x,h1,h3,by rw[←hmu];exact h4⟩
 refine⟨K',⟨⟨fun i hi=>by rw[hmu];exact H.fresh i hi,fun i hi=>by rw[hmu];exact H.has i hi,fun i g hi=>by rw[hmu] at hi;exact hG.lt i g hi,fun i ty cells hi=>?_,fun t ty sz len hi=>?_,fun i j x y g hi hj hx hy hm1 hm2=>?_,fun i ty cells g hi hm o=>?_,fun g o v hm=>?_,fun i ty sz p hi=>?_⟩,hext,hf.mono (fun _ _ e=>e.elim),fun g _=>⟨by rw[hZ],by rw[hE]⟩,fun g o hg _=>hlt g o hg,fun k b hb=>.inl (by rw[hmu] at hb;exact hb),fun b hb _=>hlv b hb,Nat.le_refl _⟩,hR,hnew,hold⟩
 ·obtain⟨g,cs,a,b,c,d⟩:=hG.box i ty cells hi
  exact⟨g,cs,by rw[hmu];exact a,b,by rw[hZ,hE];exact c,d.mono hext⟩
 ·obtain⟨g,cs,a,b,c,d,e,f⟩:=hG.tok t ty sz len hi
  refine⟨g,cs,by rw[hmu];exact a,b,by rw[hZ];exact c,by rw[hE];exact d,by rw[hZ];exact e,fun o ho=>?_⟩
  rw[hR] at ho
  rw[hlt g o (H.lt t g a)];exact f o ho
 ·rw[hmu] at hm1 hm2
  exact H.inj i j x y g hi hj hx hy hm1 hm2
 ·rw[hmu] at hm
  rw[hlt g o (H.lt i g hm)];exact H.apart i ty cells g hi hm o
 ·rw[hM] at hm
  cases hk:K.M g o with
  |some u=>rw[hk] at hm;cases hm;exact hG.agr g o _ hk
  |none=>rw[hk] at hm;exact(h2 g o v hm).2
 ·obtain⟨g,cs,a,b,c,d⟩:=hG.arr i ty sz p hi
  refine⟨g,cs,by rw[hmu];exact a,b,by rw[hZ,hE];exact c,d.go (fun o=>?_) (by rw[hR]) (by rw[hN]) (by rw[hZ]) (by rw[hE]) (fun q v _ h=>h.ext hext)⟩
  rw[hlt g o (H.lt i g a)];exact d.none o
theorem frm_below{w w':World}(h:Below w.heap.size w w'):Frm (fun _=>False) w w':=⟨h.os,h.tape,h.output,h.size,fun k hk _=>h.block k hk⟩
theorem tokCells_get(ts:List Lx.Tok):∀(i j:Nat) (h:i<ts.length),j<4→(Lx.tokCells ts)[i*4+j]? = (ts[i].cells)[j]?:=by
 induction ts with
 |nil=>intro i j h;simp at h
 |cons t l ih=>
  intro i j h hj
  have hc:t.cells.length=4:=rfl
  rw[show Lx.tokCells (t::l)=t.cells++Lx.tokCells l by simp[Lx.tokCells]]
  cases i with
  |zero=>rw[List.getElem?_append_left (by omega)];simp
  |succ i=>
   rw[List.getElem?_append_right (by omega),show (i+1)*4+j-t.cells.length=i*4+j by omega,ih i j (by simpa using h) hj]
   simp
theorem scan_sem(b:ByteArray)(hb:b.size≤maxLen)(hn:∀ts,Lx.scanP b=.ok ts→ts≠[]):Sem Tryd.prog 20 [.pv (sv b)] [] (.tup [.pv (scanV (Lx.scanP b)).1,.agg [.pv (iv (scanV (Lx.scanP b)).2.1),.pv (iv (scanV (Lx.scanP b)).2.2)]]) []:=by
 intro R K w us hR W hv
 have hus:us=[.string b]:=by
  obtain⟨hl,hh⟩:=hv
  match us,hl with
  |[u],_=>
   have h0:=hh 0 (by simp) (by simp)
   simp only[List.getElem_cons_zero] at h0
   cases h0 with
   |pv h1=>cases h1;rfl
 subst hus
 refine(Lx.scan_any b w hb).mono fun e w' hs=>?_
 unfold Lx.Scanned at hs
 have hnone:∀p x,panOf (.tup [.pv p,.agg x])=none:=fun p x=>rfl
 cases hr:Lx.scanP b with
 |ok ts=>
  rw[hr] at hs
  obtain⟨v,rfl,ho,hbl⟩:=hs
  have hne:=hn ts hr
  obtain⟨hlen,ho|ho⟩:=ho
  ·exact absurd (List.length_eq_zero_iff.1 ho.2) hne
  ·obtain⟨g,cap,cur,rfl,hg,hc,hcap,hcm,hsz,htk⟩:=ho
   obtain⟨K',hst,hKR,hnew,_⟩:=Step.known W (frm_below hbl) (fun gg o=>if gg=g then cur[o]? else none) (fun gg o v hm=>by
    split at hm
    ·rename_i e;subst e;exact⟨hg,by simp[World.cell?,hc,hm]⟩
    ·cases hm)
   refine⟨K',?_,hst⟩
   unfold EndR
   rw[hnone]
   refine⟨_,rfl,.tup _ _ rfl fun i h h'=>?_⟩
   have hi:i=0∨i=1:=by simp at h;omega
   rcases hi with rfl|rfl
   ·show VR _ (.pv (scanV (.ok ts)).1) _
    refine .pv ?_
    unfold scanV tks
    simp only
    have hl:(ts.map ofTok |>.map Tk.cells).length=ts.length:=by simp
    have key:∀i (h:i<ts.length) j,j<4→cur[i*4+j]? = (ts[i].cells)[j]?:=by
     intro i h j hj
     rw[←tokCells_get ts i j h hj,←htk,List.getElem?_take_of_lt (by omega)]
     simp
    have hpr:=PR.rows (R:=K'.R) (M:=K'.M) (ts.map ofTok |>.map Tk.cells) (some ⟨g,0,none⟩) cap g 0 4 (fun i j=>(cur[i*4+j]?).getD .nilFunc) (fun _=>rfl) (by simpa using hcap)
     (fun i h=>by simp[Tk.cells]) (fun i h j hj=>by
      have hi:i<ts.length:=by simpa using h
      have k1:=key i hi j hj
      have k2:j<(ts[i].cells).length:=hj
      rw[List.getElem?_eq_getElem k2] at k1
      refine hnew g _ _ ?_
      rw[if_pos rfl,Nat.zero_add,k1];rfl)
     (fun i h j hj=>by
      have hi:i<ts.length:=by simpa using h
      have hj':j<4:=by simpa[Tk.cells] using hj
      have k1:=key i hi j hj'
      rw[k1]
      have e:(List.map Tk.cells (List.map ofTok ts))[i]=(ofTok ts[i]).cells:=by simp
      have hcase:j=0∨j=1∨j=2∨j=3:=by omega
      rcases hcase with rfl|rfl|rfl|rfl
      all_goals
       simp only[e,Tk.cells,ofTok,Lx.Tok.cells]
       exact .lit _ rfl)
    rw[hl] at hpr
    exact hpr
   ·show VR _ (.agg [.pv (iv 0),.pv (iv 0)]) _
    exact .agg _ [_,_] rfl fun i h h'=>by
     have hi:i=0∨i=1:=by simp at h;omega
     rcases hi with rfl|rfl<;>exact .pv (.lit _ rfl)
 |error p=>
  obtain⟨c,at_⟩:=p
  rw[hr] at hs
  obtain⟨rfl,hbl⟩:=hs
  have hag:∀g o v,K.M g o=some v→g<w.heap.size:=by
   intro g o v h
   apply Decidable.byContradiction
   intro hn
   rw[W.noM (by omega)] at h
   cases h
  refine⟨K,?_,?_⟩
  ·unfold EndR
   rw[hnone]
   refine⟨_,rfl,.tup _ [_,_] rfl fun i h h'=>?_⟩
   have hi:i=0∨i=1:=by simp at h;omega
   rcases hi with rfl|rfl
   ·exact .pv (.lit _ rfl)
   ·exact .agg _ [_,_] rfl fun i h h'=>by
     have hi:i=0∨i=1:=by simp at h;omega
     rcases hi with rfl|rfl<;>exact .pv (.lit _ rfl)
  ·exact⟨W.grow (frm_below hbl),Ext.refl K,⟨hbl.os,hbl.tape,hbl.output,hbl.size,fun k hk _=>hbl.block k hk⟩,fun b _=>⟨rfl,rfl⟩,fun b o _ _=>rfl,fun k b h=>.inl h,fun b h _=>h,Nat.le_refl _⟩
end Go.Proofs.YtfphhabaeggenaaDoor
namespace Go.Proofs.YtfphhabaeggenaaDoor
open Go.RowKit
def tx1:ByteArray:=⟨#[102,32,120,32,43,32,49]⟩
def tx2:ByteArray:=⟨#[92,120,32,45,62,32]⟩
def tx3:ByteArray:=⟨#[97,32,61,61,32,98,32,61,61,32,99]⟩
def tl1:List Lx.Tok:=[⟨1,⟨#[102]⟩,0,0⟩,⟨1,⟨#[120]⟩,0,2⟩,⟨5,⟨#[43]⟩,0,4⟩,⟨3,⟨#[49]⟩,1,6⟩,⟨0,⟨#[]⟩,0,7⟩]
def tl2:List Lx.Tok:=[⟨7,⟨#[92]⟩,0,0⟩,⟨1,⟨#[120]⟩,0,1⟩,⟨7,⟨#[45,62]⟩,0,3⟩,⟨0,⟨#[]⟩,0,6⟩]
def tl3:List Lx.Tok:=[⟨1,⟨#[97]⟩,0,0⟩,⟨5,⟨#[61,61]⟩,0,2⟩,⟨1,⟨#[98]⟩,0,5⟩,⟨5,⟨#[61,61]⟩,0,7⟩,⟨1,⟨#[99]⟩,0,10⟩,⟨0,⟨#[]⟩,0,11⟩]
set_option maxRecDepth 100000 in
theorem tl1_ok:Lx.scanP tx1=.ok tl1:=by kernel_rfl
set_option maxRecDepth 100000 in
theorem tl2_ok:Lx.scanP tx2=.ok tl2:=by kernel_rfl
set_option maxRecDepth 100000 in
theorem tl3_ok:Lx.scanP tx3=.ok tl3:=by kernel_rfl
def ansK(ts:List Lx.Tok):AV×List AObj:=(.tup [.pv (tks (ts.map ofTok)),.agg [.pv (iv 0),.pv (iv 0)]],[])
def spS(b:ByteArray):Option (AV×List AObj):=match eqS tx1 b with
 |true=>some (ansK tl1)
 |false=>match eqS tx2 b with
  |true=>some (ansK tl2)
  |false=>match eqS tx3 b with
   |true=>some (ansK tl3)
   |false=>none
def spK(f:Nat)(args:List AV)(h:List AObj):Option (AV×List AObj):=match Nat.beq f 20 with
 |true=>match args,h with
  |[.pv (.lit (.string b))],[]=>spS b
  |_,_=>none
 |false=>none
theorem ansK_ok(R:Nat→PV){b:ByteArray}{ts:List Lx.Tok}(h:Lx.scanP b=.ok ts)(hb:b.size≤maxLen)(hn:ts≠[]):CallOk R Tryd.prog 20 [.pv (sv b)] [] (ansK ts).1 (ansK ts).2:=by
 have g:=scan_sem b hb (fun t e=>by rw[h] at e;cases e;exact hn) R
 rw[h] at g
 exact g
theorem spK_ok(R:Nat→PV):CallsOk R Tryd.prog spK:=by
 intro f args h v h' he
 unfold spK at he
 split at he
 ·rename_i hf
  have hf:=Nat.eq_of_beq_eq_true hf
  subst hf
  split at he
  ·rename_i b
   unfold spS at he
   split at he
   ·rename_i hs
    have:=eqS_eq' hs
    subst this
    cases he
    exact ansK_ok R tl1_ok (by decide) (by simp[tl1])
   ·split at he
    ·rename_i hs
     have:=eqS_eq' hs
     subst this
     cases he
     exact ansK_ok R tl2_ok (by decide) (by simp[tl2])
    ·split at he
     ·rename_i hs
      have:=eqS_eq' hs
      subst this
      cases he
      exact ansK_ok R tl3_ok (by decide) (by simp[tl3])
     ·cases he
  ·cases he
 ·cases he
set_option maxRecDepth 100000 in
theorem awake_run:evalF Tryd.prog okFn tabT spK 100000 60 5 [] []=some (.pv (.lit (.bool true)),[]):=by kernel_rfl
theorem awake_sem:Sem Tryd.prog 5 [] [] (.pv (bv true)) []:=fun R=>evalF_sound (spK_ok R) okFn_ok tabT_ok (fun _=>rfl) mixed 60 _ _ _ _ _ awake_run
set_option maxRecDepth 100000
section
variable{S:Nat→List Shape}{E:Nat→Ent}{T:Nat→Et}{k m f:Nat}
theorem ext_awk(ha:Sem Tryd.prog f [] [] (.pv (.lit (.bool true))) [])(hE:E k = {f:=f,args:=[],n:=0,fam:=m })(hS:S m=[{v:=.pv (.sym 0),m:=1 }])(hT:T k=.ext awkP):RuleOk Tryd.prog S E T k:=by
 refine RuleOk.ext (by rw[hE]) hT fun l r hp hr=>?_
 unfold awkP at hr
 split at hr
 ·cases hr
  refine⟨?_,?_,?_,?_,?_⟩
  ·unfold SemQ shp
   simp only[hE,hS]
   exact ha
  ·simp only[hE,hS];decide
  ·simp only[hE,hS];rfl
  ·intro p hp
   rw[List.mem_singleton.1 hp]
   exact .lit _
  ·simp only[hE,hS]
   exact fun i hi=>by cases hi
 ·cases hr
theorem ext_scn(hE:E k = {f:=20,args:=[.pv (.sym 0)],n:=1,fam:=m })(hS:S m=[{v:=.tup [.pv (.sym 0),.agg [.pv (.sym 1),.pv (.sym 2)]],m:=3 }])(hT:T k=.ext scnP):RuleOk Tryd.prog S E T k:=by
 refine RuleOk.ext (by rw[hE]) hT fun l r hp hr=>?_
 unfold scnP at hr
 split at hr
 ·rename_i b
  split at hr
  ·rename_i hb
   cases hr
   refine⟨?_,?_,?_,?_,?_⟩
   ·unfold SemQ shp
    simp only[hE,hS]
    have hs:=scan_sem b (by unfold maxLen;omega) (fun ts h e=>by have:=hb.2;rw[h,e] at this;cases this)
    unfold scanV
    cases h:Lx.scanP b with
    |ok ts=>rw[h] at hs;exact hs
    |error p=>rw[h] at hs;exact hs
   ·simp only[hE,hS];decide
   ·simp only[hE,hS];rfl
   ·have h1:NS (scanV (Lx.scanP b)).1:=by
     unfold scanV
     cases h:Lx.scanP b with
     |ok ts=>
      refine .rows _ fun c hc p hp=>?_
      obtain⟨t,_,rfl⟩:=List.mem_map.1 hc
      simp only[Tk.cells,List.mem_cons,List.not_mem_nil,or_false] at hp
      rcases hp with rfl|rfl|rfl|rfl<;>exact .lit _
     |error p=>exact .lit _
    intro p hp
    simp only[List.mem_cons,List.not_mem_nil,or_false] at hp
    rcases hp with rfl|rfl|rfl
    ·exact h1
    ·exact .lit _
    ·exact .lit _
   ·simp only[hE,hS]
    exact fun i hi=>by cases hi
  ·cases hr
 ·cases hr
end
theorem ru148:RK 148:=ext_awk (f:=5) (m:=93) awake_sem (by kernel_rfl) (by kernel_rfl) (by kernel_rfl)
theorem ru149:RK 149:=ext_scn (m:=94) (by kernel_rfl) (by kernel_rfl) (by kernel_rfl)
end Go.Proofs.YtfphhabaeggenaaDoor
