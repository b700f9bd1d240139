/- Joined texts. -/
import Derived.Test.YtfphhabaeggenaaGreatDoorBae
import Derived.StillTailTactics
import Derived.IntWalk
import Derived.Lib.DecodeN
import Derived.Lib.RuneCount
import Derived.Test.YtfphhabaeggenaaGreatDoorBad
set_option linter.all false
namespace Go.Proofs.YtfphhabaeggenaaGreatDoor.Lx
set_option maxRecDepth 20000
open Go.RowKit
theorem info5:(Tryz.prog.info? 5).map (fun i=>(i.zero,i.size,i.bytes))=some (some (.int .u8 0),1,1):=by kernel_rfl
theorem one_cell(c:UInt8):∀u,u∈[Value.int .u8 (c.toNat:Int)]→u.oneCell'=true:=by
 intro u h;simp at h;subst h;rfl
theorem GV{w:World}{base:Nat}{e:TypeId}{size:Nat}{v:Value}{n:Nat}{xs:List Value}(h:w.ownsRow base e size v n xs):∃a c,v=.slice a n c:=by
 rcases h.2 with⟨rfl,rfl⟩|⟨g,cap,_,rfl,_⟩
 ·exact⟨_,_,rfl⟩
 ·exact⟨_,_,rfl⟩
theorem Ji(s:ByteArray)(k j:Nat)(acc:List UInt8)(h:j≤s.size):vG (some (acc,s.data.toList.drop j)) s k=sD 4 (textOf acc) 0 k j:=by
 have hl:s.data.toList.length=s.size:=rfl;have e1:s.size-(s.data.toList.drop j).length=j:=by rw[List.length_drop];omega
 show sD 4 (textOf acc) 0 k (s.size-(s.data.toList.drop j).length)=_;rw[e1]
theorem Tx.move1{w0 w:World}{b B2:Nat}{s:ByteArray}{ts:List Tok}{v:Value}{j:Nat}{acc:List UInt8}{bv:Value}(h:Tx w0 b B2 s ts v j acc bv w):Tx w0 b B2 s ts v (j+1) acc bv (w.setCell ⟨b,1,none⟩ (.int .i64 ((j:Int)+1))):=by
 have:=h.move (j+1)
 rwa [Int.natCast_add] at this
set_option maxHeartbeats 2000000 in
set_option maxRecDepth 100000 in
theorem Xz(b k:Nat)(s:ByteArray)(ts:List Tok)(w:World)(hsc:Sc w b s k ts)(hk:k<s.size)(hs:s.size≤100000)(hts:ts.length≤1000000) :
  Calls Tryz.prog 158 #[.pointer (some ⟨b,0,none⟩)] w (Gu w b s ts (wI s k)):=by
 obtain⟨v,hb,ho⟩:=hsc;obtain⟨i0,hi,hz0,hz1,hz2⟩:=info_parts info5;have htx0:Tx w b w.heap.size s ts v k [] (.slice none 0 0) w:=⟨hb,ho,World.ownsRow_nil _ _ _ _,Below.refl _ _,Nat.le_refl _,hb.lt,fun g hg=>(ho.lt g hg).2⟩;generalize w.heap.size=B2 at htx0;have c1:=hb.c1;have f1:=hb.f 1;clear hb ho
 go_enter Tryz.func158,Tryz.ntmps158
 go_wp2_with fail
 go_loopg [4] (s.size-(k+1)) (fun g bv wr=>∃(j:Nat) (acc:List UInt8),k+1≤j∧j≤s.size∧s.size-j=g∧acc.length≤j∧Tx w b B2 s ts v j acc bv wr∧dW (s.data.toList.drop (k+1))=more' acc (dW (s.data.toList.drop j)))
 case atStart=>exact⟨k+1,[],Nat.le_refl _,by omega,rfl,by simp,htx0.move (k+1),(V8 _).symm⟩
 case round=>
  obtain⟨j,acc,hkj,hj,hg,hacc,htx,htl⟩:=hrel;have HR:Hid (wI s k=vG (more' acc (dW (s.data.toList.drop j))) s k):=by
   show wI s k=_;unfold wI;rw[htl]
  have HG:=Lib.hid hg;have HT:=Lib.hid htl;clear hg htl c1 f1 htx0;have c0:=htx.blk.c0;have c1:=htx.blk.c1;by_cases hlt:j<s.size
  ·have hd:decide ((j:Int)<(s.size:Int))=true:=by simp;omega
   go_wp2_with fail
   go_quiet (fail)
   have htx2:=htx.drewN nq;clear c0 c1 htx;generalize wr.drewN nq=w2 at *;have c0:=htx2.blk.c0;have c1:=htx2.blk.c1
   go_wp2_with fail
   go_quiet (fail)
   have htx:=htx2.drewN nq;clear c0 c1 htx2;generalize w2.drewN nq=wr at *;have c0:=htx.blk.c0;have c1:=htx.blk.c1;have f1:=htx.blk.f 1;have hcv:=EI htx.byt;obtain⟨ba,bc,hbv⟩:=GV htx.byt;rw[hbv] at htx hcv ⊢;clear hbv;by_cases h34:s[j].toNat=34
   ·have t34:((s[j].toNat:Int)==34)=true:=by simp[h34]
    have HE:=Lib.hid (LU hlt acc h34);clear h34;have htm:=htx.move1;have hcv2:=EI htm.byt
    go_wp2_with fail
    refine(yN b s (j+1) ts _ _ _ k _ ⟨v,htm.blk,htm.own⟩ hts).mono ?_;rintro e w3 hgot;obtain⟨c,rfl⟩:=hgot.is;have HGOT:=Lib.hid hgot;have hbel:=htm.bel;clear hgot hcv hcv2 htm htx c0 c1 f1
    go_wp2_with fail
    go_ret
    rw[HR.out,HE.out,Ji s k (j+1) acc (by omega)];exact Gu.after hbel HGOT.out
   ·have t34:((s[j].toNat:Int)==34)=false:=by simp;omega
    by_cases h10:s[j].toNat=10
    ·have t10:((s[j].toNat:Int)==10)=true:=by simp[h10]
     have HE:=Lib.hid (PW hlt acc h10);have hbel:=htx.bel;clear h10 h34 hcv htx c0 c1 f1
     go_wp2_with fail
     go_ret
     rw[HR.out,HE.out];exact⟨rfl,hbel⟩
    ·have t10:((s[j].toNat:Int)==10)=false:=by simp;omega
     by_cases h92:s[j].toNat=92
     ·have t92:((s[j].toNat:Int)==92)=true:=by simp[h92]
      clear h10 h34 hcv;have htm:=htx.move1
      go_wp2_with fail
      generalize (wr.setCell ⟨b,1,none⟩ (.int .i64 ((j:Int)+1)))=w4 at *;clear c0 c1 f1 htx;obtain⟨m,hm⟩:∃m:Nat,m=j+1:=⟨_,rfl⟩;have em:((j:Int)+1)=(m:Int):=by omega
      rw[em];rw[←hm] at htm;have hjm:j<m:=by omega
      have hmj:m≤j+1:=by omega
      have HM:=Lib.hid hm;clear hm em;have c0:=htm.blk.c0;have c1:=htm.blk.c1;by_cases h2:m<s.size
      ·have tl:((m:Int)==(s.size:Int))=false:=by simp;omega
       have HE0:=Lib.hid (PX hlt acc h92 (by omega));clear h92
       go_quiet (fail)
       have htx:=htm.drewN nq;clear c0 c1 htm;generalize w4.drewN nq=w5 at *;have c0:=htx.blk.c0;have c1:=htx.blk.c1
       go_wp2_with fail
       go_quiet (exact Calls.quiet_of_same (Tryz.strings_IndexByte _ _ _))
       have htm:=htx.drewN nq;clear c0 c1 htx;generalize w5.drewN nq=w6 at *;have HE1:Hid (more' acc (dW (s.data.toList.drop j))=match xW s[m] with|none=>none|some x=>more' (acc++[x]) (dW (s.data.toList.drop (m+1)))):=by
        have hm:=HM.out;subst hm;exact HE0.out
       clear HE0;have HD:=Lib.hid (Wt s[m]);generalize s[m]=d at *;rcases HD.out with⟨hix,hes⟩|⟨hix,hes⟩|⟨hix,hes⟩|⟨hix,hes⟩|⟨hix,hes⟩
       ·have HS:=Lib.hid hes
        have hbel:=htm.bel;clear hes htm HD
        go_wp2_with fail
        go_ret
        rw[HR.out,HE1.out,HS.out];exact⟨rfl,hbel⟩
       ·have HE2:Hid (more' acc (dW (s.data.toList.drop j))=more' (acc++[10]) (dW (s.data.toList.drop (m+1)))):=by
         have:=HE1.out
         rwa [hes] at this
        clear hes HD HE1
        go_wp2_with (at_builtin;refine wpList_append_own _ rfl _ _ 226 rfl B2 5 i0 (.int .u8 0) 1 1 Tryz.underlying226 hi hz0 hz1 hz2 rfl (by decide) _ acc.length (byteCells acc) rfl (htm.byt.alloc _) ⟨w6.heap.size,0,none⟩ 1 1 [.int .u8 10] rfl rfl ?_ ?_ ?_ ?_ ?_ ?_)
        ·exact oN w6 [.int .u8 10] 5
        ·exact one_cell 10
        ·unfold maxLen;omega
        ·omega
        ·have:=htm.hB;simp;omega
        ·intro v' w7 hown hgr _
         have hta:=htm.appended _ 10 hown hgr;clear htm hown hgr;have c1':=hta.blk.c1;have f1':=hta.blk.f 1
         go_wp2_with fail
         go_roundg (s.size-(m+1))
         case measure=>have:=HG.out;omega
         case rel=>exact⟨m+1,acc++[10],by omega,by omega,rfl,by simp;omega,hta.move1,HT.out.trans HE2.out⟩
       ·have HE2:Hid (more' acc (dW (s.data.toList.drop j))=more' (acc++[9]) (dW (s.data.toList.drop (m+1)))):=by
         have:=HE1.out
         rwa [hes] at this
        clear hes HD HE1
        go_wp2_with (at_builtin;refine wpList_append_own _ rfl _ _ 226 rfl B2 5 i0 (.int .u8 0) 1 1 Tryz.underlying226 hi hz0 hz1 hz2 rfl (by decide) _ acc.length (byteCells acc) rfl (htm.byt.alloc _) ⟨w6.heap.size,0,none⟩ 1 1 [.int .u8 9] rfl rfl ?_ ?_ ?_ ?_ ?_ ?_)
        ·exact oN w6 [.int .u8 9] 5
        ·exact one_cell 9
        ·unfold maxLen;omega
        ·omega
        ·have:=htm.hB;simp;omega
        ·intro v' w7 hown hgr _
         have hta:=htm.appended _ 9 hown hgr;clear htm hown hgr;have c1':=hta.blk.c1;have f1':=hta.blk.f 1
         go_wp2_with fail
         go_roundg (s.size-(m+1))
         case measure=>have:=HG.out;omega
         case rel=>exact⟨m+1,acc++[9],by omega,by omega,rfl,by simp;omega,hta.move1,HT.out.trans HE2.out⟩
       ·have HE2:Hid (more' acc (dW (s.data.toList.drop j))=more' (acc++[34]) (dW (s.data.toList.drop (m+1)))):=by
         have:=HE1.out
         rwa [hes] at this
        clear hes HD HE1
        go_wp2_with (at_builtin;refine wpList_append_own _ rfl _ _ 226 rfl B2 5 i0 (.int .u8 0) 1 1 Tryz.underlying226 hi hz0 hz1 hz2 rfl (by decide) _ acc.length (byteCells acc) rfl (htm.byt.alloc _) ⟨w6.heap.size,0,none⟩ 1 1 [.int .u8 34] rfl rfl ?_ ?_ ?_ ?_ ?_ ?_)
        ·exact oN w6 [.int .u8 34] 5
        ·exact one_cell 34
        ·unfold maxLen;omega
        ·omega
        ·have:=htm.hB;simp;omega
        ·intro v' w7 hown hgr _
         have hta:=htm.appended _ 34 hown hgr;clear htm hown hgr;have c1':=hta.blk.c1;have f1':=hta.blk.f 1
         go_wp2_with fail
         go_roundg (s.size-(m+1))
         case measure=>have:=HG.out;omega
         case rel=>exact⟨m+1,acc++[34],by omega,by omega,rfl,by simp;omega,hta.move1,HT.out.trans HE2.out⟩
       ·have HE2:Hid (more' acc (dW (s.data.toList.drop j))=more' (acc++[92]) (dW (s.data.toList.drop (m+1)))):=by
         have:=HE1.out
         rwa [hes] at this
        clear hes HD HE1
        go_wp2_with (at_builtin;refine wpList_append_own _ rfl _ _ 226 rfl B2 5 i0 (.int .u8 0) 1 1 Tryz.underlying226 hi hz0 hz1 hz2 rfl (by decide) _ acc.length (byteCells acc) rfl (htm.byt.alloc _) ⟨w6.heap.size,0,none⟩ 1 1 [.int .u8 92] rfl rfl ?_ ?_ ?_ ?_ ?_ ?_)
        ·exact oN w6 [.int .u8 92] 5
        ·exact one_cell 92
        ·unfold maxLen;omega
        ·omega
        ·have:=htm.hB;simp;omega
        ·intro v' w7 hown hgr _
         have hta:=htm.appended _ 92 hown hgr;clear htm hown hgr;have c1':=hta.blk.c1;have f1':=hta.blk.f 1
         go_wp2_with fail
         go_roundg (s.size-(m+1))
         case measure=>have:=HG.out;omega
         case rel=>exact⟨m+1,acc++[92],by omega,by omega,rfl,by simp;omega,hta.move1,HT.out.trans HE2.out⟩
      ·have tl:((m:Int)==(s.size:Int))=true:=by simp;omega
       have HE:=Lib.hid (DN hlt acc h92 (by omega));have hbel:=htm.bel;clear h92
       go_quiet (fail)
       clear htm c0 c1
       go_wp2_with fail
       go_ret
       rw[HR.out,HE.out];exact⟨rfl,⟨hbel.os,hbel.tape,hbel.output,hbel.size,hbel.block⟩⟩
     ·have t92:((s[j].toNat:Int)==92)=false:=by simp;omega
      have HE:=Lib.hid (LV hlt acc h34 h10 h92);clear h34 h10 h92 hcv
      go_wp2_with (at_builtin;refine wpList_append_own _ rfl _ _ 226 rfl B2 5 i0 (.int .u8 0) 1 1 Tryz.underlying226 hi hz0 hz1 hz2 rfl (by decide) _ acc.length (byteCells acc) rfl (htx.byt.alloc _) ⟨wr.heap.size,0,none⟩ 1 1 [.int .u8 (s[j].toNat:Int)] rfl rfl ?_ ?_ ?_ ?_ ?_ ?_)
      ·exact oN wr [.int .u8 (s[j].toNat:Int)] 5
      ·exact one_cell s[j]
      ·unfold maxLen;omega
      ·omega
      ·have:=htx.hB;simp;omega
      ·intro v' w7 hown hgr _
       have hta:=htx.appended _ s[j] hown hgr;clear htx hown hgr;have c1':=hta.blk.c1;have f1':=hta.blk.f 1
       go_wp2_with fail
       go_roundg (s.size-(j+1))
       case measure=>have:=HG.out;omega
       case rel=>exact⟨j+1,acc++[s[j]],by omega,by omega,rfl,by simp;omega,hta.move1,HT.out.trans HE.out⟩
  ·have hd:decide ((j:Int)<(s.size:Int))=false:=by simp;omega
   have HE:=Lib.hid (Vx hlt acc);have hbel:=htx.bel
   go_wp2_with fail
   go_quiet (fail)
   clear htx c0 c1
   go_wp2_with fail
   go_ret
   rw[HR.out,HE.out];exact⟨rfl,⟨hbel.os,hbel.tape,hbel.output,hbel.size,hbel.block⟩⟩
end Go.Proofs.YtfphhabaeggenaaGreatDoor.Lx
namespace Go.Proofs.YtfphhabaeggenaaGreatDoor.Lx
set_option maxRecDepth 20000
open Go.RowKit
def XD(s:ByteArray)(k:Nat):Except Int (Tok×Nat):=sD (if za (s.extract k (nO qX s k))=true then 7 else 5) (s.extract k (nO qX s k)) 0 k (nO qX s k)
def jN(s:ByteArray)(k:Nat)(c:UInt8):Except Int (Tok×Nat):=
 if ND c=true∨RN c=true then Bq s k
 else if bJ c=true then Nv s k
 else if c.toNat=34 then wI s k
 else if qX c=true then XD s k
 else if za (s.extract k (k+1))=true then sD 7 (s.extract k (k+1)) 0 k (k+1)
 else .error 101
theorem Sc.drewN{w:World}{b k:Nat}{s:ByteArray}{ts:List Tok}(h:Sc w b s k ts)(n:Nat):Sc (w.drewN n) b s k ts:=h
theorem below_drewN'{B:Nat}{a w:World}(h:Below B a w)(n:Nat):Below B a (w.drewN n):=⟨h.os,h.tape,h.output,h.size,h.block⟩
set_option maxHeartbeats 1000000 in
set_option maxRecDepth 100000 in
theorem ac5(b k:Nat)(s:ByteArray)(ts:List Tok)(w:World)(hsc:Sc w b s k ts)(hk:k<s.size)(hs:s.size≤100000)(hts:ts.length≤1000000) :
  Calls Tryz.prog 94 #[.pointer (some ⟨b,0,none⟩)] w (Gu w b s ts (jN s k s[k])):=by
 have hsc0:=hsc;obtain⟨v,hb,ho⟩:=hsc;have c0:=hb.c0;have c1:=hb.c1;have hbw:b<w.heap.size:=hb.lt
 go_enter Tryz.func94,Tryz.ntmps94
 go_wp2_with fail
 go_quiet (fail)
 have hsc1:=hsc0.drewN nq;have hbl:=below_drewN' (Below.refl b w) nq;clear c0 c1 hb ho hsc0;generalize w.drewN nq=w1 at *;cases h1:ND s[k]
 ·cases h2:RN s[k]
  ·cases h3:bJ s[k]
   ·by_cases h34:s[k].toNat=34
    ·have t34:((s[k].toNat:Int)==34)=true:=by simp[h34]
     have HR:Hid (jN s k s[k]=wI s k):=by
      show jN s k s[k]=wI s k;unfold jN;simp[h1,h2,h3,h34]
     clear h34
     go_wp2_with (first|(go_at_call 135;refine(ol _ _).mono ?_;rintro e w' ⟨rfl,rfl⟩)|(go_at_call 134;refine(rU _ _).mono ?_;rintro e w' ⟨rfl,rfl⟩)|(go_at_call 156;refine(kT _ _).mono ?_;rintro e w' ⟨rfl,rfl⟩))
     refine(Xz b k s ts _ hsc1 hk hs hts).mono ?_;rintro e w2 hgot;obtain⟨c,rfl⟩:=hgot.is;have HGOT:=Lib.hid hgot;clear hgot
     go_wp2_with fail
     go_ret
     rw[HR.out];exact Gu.after hbl HGOT.out
    ·have t34:((s[k].toNat:Int)==34)=false:=by simp;omega
     cases h4:qX s[k]
     ·go_wp2_with (first|(go_at_call 135;refine(ol _ _).mono ?_;rintro e w' ⟨rfl,rfl⟩)|(go_at_call 134;refine(rU _ _).mono ?_;rintro e w' ⟨rfl,rfl⟩)|(go_at_call 156;refine(kT _ _).mono ?_;rintro e w' ⟨rfl,rfl⟩)|(go_at_call 159;refine(xf _ _).mono ?_;rintro e w' ⟨rfl,rfl⟩))
      obtain⟨v,hb,ho⟩:=hsc1;have c0:=hb.c0;have c1:=hb.c1;cases h5:za (s.extract k (k+1))
      ·have HR:Hid (jN s k s[k]=.error 101):=by
        show jN s k s[k]=.error 101;unfold jN;simp[h1,h2,h3,h34,h4,h5]
       have hw1:IntKind.i64.wrap ((k:Int)+1)=(k:Int)+1:=IntWalk.i64_in _ (by omega);have hw2:0≤(k:Int)+1:=by omega
       have hw3:((k:Int)+1).toNat=k+1:=by omega
       go_quiet (exact sw (Fb _ _))
       rw[h5];clear c0 c1 hw1 hw2 hw3
       go_wp2_with fail
       go_ret
       rw[HR.out];exact⟨rfl,below_drewN' hbl _⟩
      ·have HR:Hid (jN s k s[k]=sD 7 (s.extract k (k+1)) 0 k (k+1)):=by
        show jN s k s[k]=_;unfold jN;simp[h1,h2,h3,h34,h4,h5]
       have hw1:IntKind.i64.wrap ((k:Int)+1)=(k:Int)+1:=IntWalk.i64_in _ (by omega);have hw2:0≤(k:Int)+1:=by omega
       have hw3:((k:Int)+1).toNat=k+1:=by omega
       go_quiet (exact sw (Fb _ _))
       rw[h5];have hb2:=hb.drewN nq;have ho2:(w1.drewN nq).ownsRow (b+1) 106 4 v ts.length (tokCells ts):=ho;have hbl2:=below_drewN' hbl nq;clear c0 c1 hw1 hw2 hw3 hb ho hbl;generalize w1.drewN nq=w2 at *;have c1:=hb2.c1;have f1:=hb2.f 1
       go_wp2_with fail
       have hb3:=hb2.set1 (k+1);rw[Int.natCast_add] at hb3;have ho3:=ownsRow_setCell_below ho2 (a:=⟨b,1,none⟩) (by simp) (.int .i64 ((k:Int)+1));have hbl3:=hbl2.setCell (p:=⟨b,1,none⟩) (Nat.le_refl _) (.int .i64 ((k:Int)+1));have em:((k:Int)+1)=((k+1:Nat):Int):=by omega
       rw[show ((1:Nat):Int)=1 from rfl] at hb3;clear c1 f1 hb2 ho2 hbl2;generalize (w2.setCell ⟨b,1,none⟩ (.int .i64 ((k:Int)+1)))=w3 at *;have c0:=hb3.c0;have c1:=hb3.c1;rw[←em] at c1;clear em;have hw1:IntKind.i64.wrap (k:Int)=(k:Int):=IntWalk.i64_in _ (by omega);have hw2:0≤(k:Int)+1:=by omega
       have hw3:((k:Int)+1).toNat=k+1:=by omega
       have hsl:∀wx:World,(Instr.slice 9 (.string s) (some (.int .i64 (k:Int))) (some (.int .i64 ((k:Int)+1))) none).run Tryz.prog wx=.ok (.string (s.extract k (k+1))) wx:=by
        intro wx;have:=run_slice_string (P:=Tryz.prog) wx 9 s .i64 .i64 (k:Int) ((k:Int)+1) Tryz.underlying9 (by omega) (by omega) (by omega)
        rwa [hw3] at this
       go_still_tail 20,(by kernel_rfl)
       change wpList _ _ _ _ _ w3.drew;have hsc4:Sc w3.drew b s (k+1) ts:=⟨v,hb3,ho3⟩;have hbl4:Below b w w3.drew:=hbl3.drew;clear c0 c1 hw1 hw2 hw3 hb3 ho3 hbl3 hsl;generalize w3.drew=w4 at *
       go_wp2_with fail
       refine(yN b s (k+1) ts _ _ _ k _ hsc4 hts).mono ?_;rintro e w5 hgot;obtain⟨c,rfl⟩:=hgot.is;have HGOT:=Lib.hid hgot;clear hgot
       go_wp2_with fail
       go_ret
       rw[HR.out];exact Gu.after hbl4 HGOT.out
     ·have HR:Hid (jN s k s[k]=XD s k):=by
       show jN s k s[k]=XD s k;unfold jN;simp[h1,h2,h3,h34,h4]
      obtain⟨v,hb,ho⟩:=hsc1;have c1:=hb.c1
      go_wp2_with (first|(go_at_call 135;refine(ol _ _).mono ?_;rintro e w' ⟨rfl,rfl⟩)|(go_at_call 134;refine(rU _ _).mono ?_;rintro e w' ⟨rfl,rfl⟩)|(go_at_call 156;refine(kT _ _).mono ?_;rintro e w' ⟨rfl,rfl⟩)|(go_at_call 159;refine(xf _ _).mono ?_;rintro e w' ⟨rfl,rfl⟩))
      refine(yZ 159 qX VA b k s v _ hb (by omega) (by omega)).mono ?_;rintro e w2 ⟨rfl,hb1,hg1⟩;have hsc2:=Sc.moved ho hb1 hg1;have hbl2:=hbl.trans (lN hg1 (Nat.le_of_lt hb.lt));have HS:Hid (XD s k=sD (if za (s.extract k (nO qX s k))=true then 7 else 5) (s.extract k (nO qX s k)) 0 k (nO qX s k)):=rfl;clear hb1 hg1 ho hb c1 hbl;generalize s.extract k (nO qX s k)=x at *;generalize nO qX s k=j at *;cases h5:za x
      all_goals
       go_wp2_with (go_at_call 160;refine(Fb _ _).mono ?_;rintro e w' ⟨rfl,rfl⟩)
       refine(yN b s j ts _ _ x k _ hsc2 hts).mono ?_;rintro e w3 hgot;obtain⟨c,rfl⟩:=hgot.is;have HGOT:=Lib.hid hgot;clear hgot
       go_wp2_with fail
       go_ret
       rw[HR.out,HS.out,h5];exact Gu.after hbl2 HGOT.out
   ·have HR:Hid (jN s k s[k]=Nv s k):=by
     show jN s k s[k]=Nv s k;unfold jN;simp[h1,h2,h3]
    go_wp2_with (first|(go_at_call 135;refine(ol _ _).mono ?_;rintro e w' ⟨rfl,rfl⟩)|(go_at_call 134;refine(rU _ _).mono ?_;rintro e w' ⟨rfl,rfl⟩)|(go_at_call 156;refine(kT _ _).mono ?_;rintro e w' ⟨rfl,rfl⟩))
    refine(Qw b k s ts _ hsc1 hk hs hts).mono ?_;rintro e w2 hgot;obtain⟨c,rfl⟩:=hgot.is;have HGOT:=Lib.hid hgot;clear hgot
    go_wp2_with fail
    go_ret
    rw[HR.out];exact Gu.after hbl HGOT.out
  ·have HR:Hid (jN s k s[k]=Bq s k):=by
    show jN s k s[k]=Bq s k;unfold jN;simp[h2]
   go_wp2_with (first|(go_at_call 135;refine(ol _ _).mono ?_;rintro e w' ⟨rfl,rfl⟩)|(go_at_call 134;refine(rU _ _).mono ?_;rintro e w' ⟨rfl,rfl⟩))
   refine(LD b k s ts _ hsc1 hk (by omega) hts (by simp[bS,h2])).mono ?_;rintro e w2 hgot;obtain⟨c,rfl⟩:=hgot.is;have HGOT:=Lib.hid hgot;clear hgot
   go_wp2_with fail
   go_ret
   rw[HR.out];exact Gu.after hbl HGOT.out
 ·have HR:Hid (jN s k s[k]=Bq s k):=by
   show jN s k s[k]=Bq s k;unfold jN;simp[h1]
  go_wp2_with (first|(go_at_call 135;refine(ol _ _).mono ?_;rintro e w' ⟨rfl,rfl⟩))
  refine(LD b k s ts _ hsc1 hk (by omega) hts (by simp[bS,h1])).mono ?_;rintro e w2 hgot;obtain⟨c,rfl⟩:=hgot.is;have HGOT:=Lib.hid hgot;clear hgot
  go_wp2_with fail
  go_ret
  rw[HR.out];exact Gu.after hbl HGOT.out
end Go.Proofs.YtfphhabaeggenaaGreatDoor.Lx
namespace Go.Proofs.YtfphhabaeggenaaGreatDoor.Lx
set_option maxRecDepth 20000
open Go.RowKit
def zO(s:ByteArray)(pos:Nat):Bool:=((Utf8.decode s pos).1:Int)==65533 && !Lib.hasPrefix (s.extract pos s.size).data.toList [239,191,189]
def iV(s:ByteArray):Nat→Nat→Int
 |0,_=>-1
 |f+1,pos=>if pos<s.size then(if zO s pos=true then(pos:Int) else iV s f (pos+(Utf8.decode s pos).2)) else -1
def iU(s:ByteArray):Int:=iV s (s.size+1) 0
theorem uw(s:ByteArray):∀(f pos:Nat),s.size-pos<f→iV s f pos=iV s (s.size-pos+1) pos
 |0,pos,h=>by omega
 |f+1,pos,h=>by
  by_cases hp:pos<s.size
  ·simp only[iV,hp,if_true]
   cases hb:zO s pos
   ·simp only[Bool.false_eq_true,if_false]
    have hw:=Lib.decode_width_pos s pos hp;rw[uw s f _ (by omega),uw s (s.size-pos) (pos+(Utf8.decode s pos).2) (by omega)]
   ·simp
  ·simp[iV,hp]
theorem Mc{s:ByteArray}{pos:Nat}(hp:pos<s.size)(hb:zO s pos=false)(h:iU s=iV s (s.size-pos+1) pos) :
  iU s=iV s (s.size-(pos+(Utf8.decode s pos).2)+1) (pos+(Utf8.decode s pos).2):=by
 rw[h];have hw:=Lib.decode_width_pos s pos hp
 conv=>lhs;unfold iV
 simp only[hp,if_true,hb,Bool.false_eq_true,if_false];exact uw s _ _ (by omega)
theorem P8{s:ByteArray}{pos:Nat}(hp:pos<s.size)(hb:zO s pos=true)(h:iU s=iV s (s.size-pos+1) pos):iU s=pos:=by
 rw[h];simp[iV,hp,hb]
theorem VF{s:ByteArray}{pos:Nat}(hp:¬pos<s.size)(h:iU s=iV s (s.size-pos+1) pos):iU s = -1:=by
 rw[h];simp[iV,hp]
set_option maxHeartbeats 1000000 in
theorem Bw(s:ByteArray)(w:World)(hs:s.size≤1000000) :
  Calls Tryz.prog 92 #[.string s] w fun e w'=>e=.returned (.int .i64 (iU s))∧Below w.heap.size w w':=by
 go_enter Tryz.func92,Tryz.ntmps92
 go_wp2_with fail
 go_loopg [2] (s.size) (fun g o wr=>∃pos:Nat,o=.int .i64 0∧wr=w.iter s pos∧s.size-pos≤g∧iU s=iV s (s.size-pos+1) pos)
 case atStart=>exact⟨0,rfl,rfl,by omega,rfl⟩
 case round=>
  obtain⟨pos,rfl,hwr,hg,hsp⟩:=hrel;have HW:=Lib.hid hwr;have HS:=Lib.hid hsp;clear hwr hsp;have hbl:Below w.heap.size w (w.iter s pos):=(Below.refl _ _).alloc (Nat.le_refl _) _;by_cases hp:pos<s.size
  ·have hnx:=run_next_any (P:=Tryz.prog) w s pos 0 hp
   have hw1:=Lib.decode_width_pos s pos hp;have hrw:=HW.out;rw[hrw];clear hrw;have hlt:pos<pos+(Utf8.decode s pos).2:=by omega
   cases hd:(((Utf8.decode s pos).1:Int)==65533)
   ·have HB:=Lib.hid (Mc hp (by simp[zO,hd]) HS.out)
    go_wp2_with fail
    go_roundg (s.size-(pos+(Utf8.decode s pos).2))
    case measure=>omega
    case rel=>exact⟨pos+(Utf8.decode s pos).2,rfl,rfl,Nat.le_refl _,HB.out⟩
   ·cases hh:Lib.hasPrefix (s.extract pos s.size).data.toList [239,191,189]
    ·have HB:=Lib.hid (P8 hp (by unfold zO;rw[hd,hh];rfl) HS.out)
     have HH:=Lib.hid hh;clear hh
     go_wp2_with fail
     refine(Tryz.strings_HasPrefix _ _ _).mono ?_;rintro e w' ⟨rfl,rfl⟩;rw[HH.out]
     go_wp2_with fail
     go_ret
     rw[HB.out];exact⟨rfl,(Below.refl _ _).alloc (Nat.le_refl _) _⟩
    ·have HB:=Lib.hid (Mc hp (by unfold zO;rw[hd,hh];rfl) HS.out)
     have HH:=Lib.hid hh;clear hh
     go_wp2_with fail
     refine(Tryz.strings_HasPrefix _ _ _).mono ?_;rintro e w' ⟨rfl,rfl⟩;rw[HH.out]
     go_wp2_with fail
     go_roundg (s.size-(pos+(Utf8.decode s pos).2))
     case measure=>omega
     case rel=>exact⟨pos+(Utf8.decode s pos).2,rfl,rfl,Nat.le_refl _,HB.out⟩
  ·have hnx:=run_next_end (P:=Tryz.prog) w s pos 0 hp
   have HB:=Lib.hid (VF hp HS.out);have hrw:=HW.out;rw[hrw];clear hrw
   go_wp2_with fail
   go_ret
   rw[HB.out];exact⟨rfl,(Below.refl _ _).alloc (Nat.le_refl _) _⟩
end Go.Proofs.YtfphhabaeggenaaGreatDoor.Lx
namespace Go.Proofs.YtfphhabaeggenaaGreatDoor.Lx
set_option maxRecDepth 20000
open Go.RowKit
theorem uH{kind n:Int}{x:ByteArray}{at_ k:Nat}{t:Tok}{j:Nat}(h:sD kind x n at_ k=.ok (t,j)):j=k:=by
 unfold sD at h;split at h
 ·cases h
 ·cases h;rfl
theorem Ac:∀(n:Nat) (l x r:List UInt8),l.length≤n→dW l=some (x,r)→r.length<l.length
 |0,l,x,r,hn,h=>by
  have:l=[]:=List.eq_nil_of_length_eq_zero (by omega);subst this;cases h
 |n+1,[],x,r,hn,h=>by cases h
 |n+1,c::l,x,r,hn,h=>by
  rw[ko] at h;simp only[List.length_cons] at hn ⊢;split at h
  ·cases h;omega
  ·split at h
   ·cases h
   ·split at h
    ·cases l with
     |nil=>cases h
     |cons d l'=>
      simp only at h;split at h
      ·cases h
      ·cases h2:dW l' with
       |none=>rw[h2] at h;cases h
       |some p=>
        rw[h2] at h;have:=Ac n l' p.1 p.2 (by simp only[List.length_cons] at hn;omega) h2;cases h;simp only[List.length_cons];omega
    ·cases h2:dW l with
     |none=>rw[h2] at h;cases h
     |some p=>
      rw[h2] at h;have:=Ac n l p.1 p.2 (by omega) h2;cases h;omega
theorem RB{p:UInt8→Bool}{s:ByteArray}{k:Nat}(h:k<s.size)(hp:p s[k]=true):k<nO p s k:=by
 unfold nO;rw[drop_at s k h];simp[hp]
theorem JV{s:ByteArray}{k:Nat}(h:k<s.size){t:Tok}{j:Nat}(h1:jN s k s[k]=.ok (t,j)):k<j∧j≤s.size:=by
 unfold jN at h1;split at h1
 ·rename_i hc
  have:=uH h1;subst this;refine⟨RB h ?_,vD _ s k (by omega)⟩;rcases hc with hc|hc<;>simp[bS,hc]
 ·split at h1
  ·rename_i hd
   unfold Nv numOf at h1;split at h1
   ·cases h1
   ·have:=uH h1
    subst this;exact⟨RB h hd,vD _ s k (by omega)⟩
  ·split at h1
   ·unfold wI vG at h1
    split at h1
    ·cases h1
    ·rename_i x r hx
     have:=uH h1;subst this;have h2:=Ac _ _ _ _ (Nat.le_refl _) hx;have hl:s.data.toList.length=s.size:=rfl;rw[List.length_drop] at h2;omega
   ·split at h1
    ·rename_i hs
     have:=uH h1;subst this;exact⟨RB h hs,vD _ s k (by omega)⟩
    ·split at h1
     ·have:=uH h1
      subst this;omega
     ·cases h1
theorem mg(s:ByteArray)(k:Nat)(h:k≤s.size):k≤skipPos s k∧skipPos s k≤s.size:=by
 unfold skipPos;have h1:=skipC_length false (s.data.toList.drop k);have hl:s.data.toList.length=s.size:=rfl;rw[List.length_drop] at h1;omega
def KU(s:ByteArray):Tok:=⟨0,⟨#[]⟩,0,s.size⟩
def jA(s:ByteArray):Nat→Nat→List Tok→Except (Int×Nat) (List Tok)
 |0,_,ts=>.ok (ts++[KU s])
 |f+1,pos,ts=>
  if h:pos<s.size then
   match jN s pos s[pos] with
   |.error c=>.error (c,pos)
   |.ok (t,j)=>jA s f (skipPos s j) (ts++[t])
  else .ok (ts++[KU s])
def scanP(s:ByteArray):Except (Int×Nat) (List Tok):=
 if 60000<s.size then .error (3,0)
 else if 0≤iU s then .error (100,(iU s).toNat)
 else jA s (s.size+1) (skipPos s 0) []
theorem rY(s:ByteArray):∀(f pos:Nat) (ts:List Tok),s.size-pos<f→jA s f pos ts=jA s (s.size-pos+1) pos ts
 |0,pos,ts,h=>by omega
 |f+1,pos,ts,h=>by
  by_cases hp:pos<s.size
  ·simp only[jA,hp,dif_pos]
   cases h1:jN s pos s[pos] with
   |error c=>rfl
   |ok p=>
    obtain⟨t,j⟩:=p;have hb:=JV hp h1;have hk:=mg s j hb.2;simp only;rw[rY s f _ _ (by omega),rY s (s.size-pos) (skipPos s j) _ (by omega)]
  ·simp[jA,hp]
def Scanned(w:World)(r:Except (Int×Nat) (List Tok))(e:Ending)(w':World):Prop:=
 match r with
 |.ok ts=>∃v,e=.returned (.tuple #[v,.agg #[.int .i64 0,.int .i64 0]])∧w'.ownsRow w.heap.size 106 4 v ts.length (tokCells ts)∧Below w.heap.size w w'
 |.error (c,at_)=>e=.returned (.tuple #[.slice none 0 0,.agg #[.int .i64 c,.int .i64 (at_:Int)]])∧Below w.heap.size w w'
set_option maxHeartbeats 1000000 in
theorem Qf(s:ByteArray)(w:World)(h:60000<s.size)(hs:s.size≤maxLen):Calls Tryz.prog 47 #[.string s] w (Scanned w (scanP s)):=by
 have HR:Hid (scanP s=.error (3,0)):=by
  show scanP s=_;unfold scanP;rw[if_pos h]
 unfold maxLen at hs
 go_enter Tryz.func47,Tryz.ntmps47
 go_wp2_with fail
 refine bodyPost_ret (v:=.tuple #[.slice none 0 0,.agg #[.int .i64 3,.int .i64 0]]) (by simp[results,Tryz.results47,go_sem]) rfl ?_;rw[HR.out];exact⟨rfl,((Below.refl _ _).alloc (Nat.le_refl _) _)⟩
end Go.Proofs.YtfphhabaeggenaaGreatDoor.Lx
namespace Go.Proofs.YtfphhabaeggenaaGreatDoor.Lx
set_option maxRecDepth 20000
open Go.RowKit
set_option maxHeartbeats 1000000 in
theorem Js(s:ByteArray)(w:World)(h:¬60000<s.size)(hsp:0≤iU s):Calls Tryz.prog 47 #[.string s] w (Scanned w (scanP s)):=by
 have HR:Hid (scanP s=.error (100,(iU s).toNat)):=by
  show scanP s=_;unfold scanP;rw[if_neg h,if_pos hsp]
 have hs:(s.size:Int)≤60000:=by omega
 go_enter Tryz.func47,Tryz.ntmps47
 go_wp2_with fail
 refine(Bw s _ (by omega)).mono ?_;rintro e w1 ⟨rfl,hb⟩;obtain⟨n,hn⟩:=Int.eq_ofNat_of_zero_le hsp;rw[hn] at HR hsp ⊢;clear hn;have hc0:w1.heap[w.heap.size]? = some (.cells #[.int .i64 0,.int .i64 0] 31 (0,0)):=by
  rw[hb.block w.heap.size (by simp)];exact heap_alloc_new w _
 have hf:w1.frozen? ⟨w.heap.size,0,none⟩=false:=by simp[World.frozen?,hc0]
 have hf1:w1.frozen? ⟨w.heap.size,1,none⟩=false:=by simp[World.frozen?,hc0]
 have hl0:w1.cell? ⟨w.heap.size,0,none⟩=some (.int .i64 0):=by simp[World.cell?,hc0]
 have hl1:w1.cell? ⟨w.heap.size,1,none⟩=some (.int .i64 0):=by simp[World.cell?,hc0]
 have hbl:Below w.heap.size w w1:=((Below.refl _ _).alloc (Nat.le_refl _) _).trans (hb.mono (by simp));have hsz:w.heap.size<w1.heap.size:=by have:=hb.size;simp at this;omega
 clear hc0 hb
 go_wp2_with fail
 refine bodyPost_ret (v:=.tuple #[.slice none 0 0,.agg #[.int .i64 100,.int .i64 (n:Int)]]) (by simp[results,Tryz.results47,go_sem,hl0,hl1]) rfl ?_;rw[HR.out];exact⟨rfl,(hbl.setCell (by simp) _).setCell (by simp) _⟩
theorem RV(b k:Nat)(s:ByteArray)(ts:List Tok)(w:World)(hsc:Sc w b s k ts)(hk:k≤s.size)(hs:s.size≤1000000) :
  Calls Tryz.prog 93 #[.pointer (some ⟨b,0,none⟩)] w fun e w'=>e=.returned (.tuple #[])∧Sc w' b s (skipPos s k) ts∧Below b w w':=by
 obtain⟨v,hb,ho⟩:=hsc;refine(XL b k s v w hb hk hs).mono ?_;rintro e w' ⟨rfl,h1,h2⟩;exact⟨rfl,Sc.moved ho h1 h2,lN h2 (Nat.le_of_lt hb.lt)⟩
theorem JR{w:World}{base base':Nat}{e:TypeId}{size:Nat}{v:Value}{n:Nat}{xs:List Value}(h:w.ownsRow base e size v n xs)(hb:base'≤base):w.ownsRow base' e size v n xs:=by
 refine⟨h.1,?_⟩;rcases h.2 with h2|⟨g,cap,cur,hv,hg,r⟩
 ·exact .inl h2
 ·exact .inr ⟨g,cap,cur,hv,by omega,r⟩
def bG(w:World)(r:Nat):Prop:=w.heap[r]? = some (.cells #[.int .i64 0,.int .i64 0] 31 (0,0))
theorem bG.f{w:World}{r:Nat}(h:bG w r)(o:Nat):w.frozen? ⟨r,o,none⟩=false:=by simp[World.frozen?,show w.heap[r]? = _ from h]
theorem bG.c0{w:World}{r:Nat}(h:bG w r):w.cell? ⟨r,0,none⟩=some (.int .i64 0):=by simp[World.cell?,show w.heap[r]? = _ from h]
theorem bG.c1{w:World}{r:Nat}(h:bG w r):w.cell? ⟨r,1,none⟩=some (.int .i64 0):=by simp[World.cell?,show w.heap[r]? = _ from h]
theorem uI{kind n:Int}{x:ByteArray}{at_ k:Nat}{c:Int}(h:sD kind x n at_ k=.error c):c=104:=by
 unfold sD at h;split at h
 ·cases h;rfl
 ·cases h
theorem YR{s:ByteArray}{k:Nat}{d:UInt8}{c:Int}(h1:jN s k d=.error c):(c != 0)=true:=by
 unfold jN at h1;split at h1
 ·have:=uI h1;subst this;rfl
 ·split at h1
  ·unfold Nv numOf at h1
   split at h1
   ·cases h1;rfl
   ·have:=uI h1;subst this;rfl
  ·split at h1
   ·unfold wI vG at h1
    split at h1
    ·cases h1;rfl
    ·have:=uI h1;subst this;rfl
   ·split at h1
    ·have:=uI h1;subst this;rfl
    ·split at h1
     ·have:=uI h1;subst this;rfl
     ·cases h1;rfl
theorem VJ{s:ByteArray}{pos:Nat}{ts:List Tok}(hp:pos<s.size){c:Int}(h:jN s pos s[pos]=.error c):jA s (s.size-pos+1) pos ts=.error (c,pos):=by
 simp[jA,hp,h]
theorem XT{s:ByteArray}{pos:Nat}{ts:List Tok}(hp:pos<s.size){t:Tok}{j:Nat}(h:jN s pos s[pos]=.ok (t,j)) :
  jA s (s.size-pos+1) pos ts=jA s (s.size-skipPos s j+1) (skipPos s j) (ts++[t]):=by
 have hb:=JV hp h;have hk:=mg s j hb.2;have:jA s (s.size-pos+1) pos ts=jA s (s.size-pos) (skipPos s j) (ts++[t]):=by simp[jA,hp,h]
 rw[this];exact rY s _ _ _ (by omega)
theorem VK{s:ByteArray}{pos:Nat}{ts:List Tok}(hp:¬pos<s.size):jA s (s.size-pos+1) pos ts=.ok (ts++[KU s]):=by
 simp[jA,hp]
set_option maxHeartbeats 2000000 in
theorem VI(s:ByteArray)(w:World)(h:¬60000<s.size)(hsp:¬0≤iU s):Calls Tryz.prog 47 #[.string s] w (Scanned w (scanP s)):=by
 have HR:Hid (scanP s=jA s (s.size+1) (skipPos s 0) []):=by
  show scanP s=_;unfold scanP;rw[if_neg h,if_neg hsp]
 have hs:(s.size:Int)≤60000:=by omega
 have hdl:decide ((60000:Int)<(s.size:Int))=false:=by simp;omega
 go_enter Tryz.func47,Tryz.ntmps47
 go_wp2_with fail
 refine(Bw s _ (by omega)).mono ?_;rintro e w1 ⟨rfl,hb⟩;have hres:bG w1 w.heap.size:=by
  unfold bG;rw[hb.block w.heap.size (by simp)];exact heap_alloc_new w _
 have hbl:Below w.heap.size w w1:=((Below.refl _ _).alloc (Nat.le_refl _) _).trans (hb.mono (by simp));have hsz:w.heap.size<w1.heap.size:=by have:=hb.size;simp at this;omega
 have hspn:iU s<0:=by omega
 generalize iU s=sp at *;have hds:decide (0≤sp)=false:=by simp;omega
 generalize hr:w.heap.size=r at *;clear hb
 go_wp2_with fail
 have hsc:Sc (w1.alloc (.cells #[.string s,.int .i64 0,.slice none 0 0] 159)) w1.heap.size s 0 []:=⟨.slice none 0 0,heap_alloc_new w1 _,World.ownsRow_nil _ _ _ _⟩;have hb2:Below w1.heap.size w1 (w1.alloc (.cells #[.string s,.int .i64 0,.slice none 0 0] 159)):=(Below.refl _ _).alloc (Nat.le_refl _) _;generalize w1.alloc (.cells #[.string s,.int .i64 0,.slice none 0 0] 159)=w2 at *;generalize w1.heap.size=b at *;refine(RV b 0 s [] _ hsc (Nat.zero_le _) (by omega)).mono ?_;rintro e w3 ⟨rfl,hsc3,hb3⟩;have hb4:=hb2.trans hb3;have hpos:=mg s 0 (Nat.zero_le _);have HS:Hid (scanP s=jA s (s.size-skipPos s 0+1) (skipPos s 0) []):=HR.out.trans (rY s _ _ _ (by omega));clear hsc hb2 hb3 HR;generalize skipPos s 0=p0 at *
 go_wp2_with fail
 go_loopg [] (s.size-p0) (fun g wr=>∃(pos:Nat) (ts:List Tok),pos≤s.size∧s.size-pos=g∧ts.length≤pos∧Sc wr b s pos ts∧Below b w1 wr∧scanP s=jA s (s.size-pos+1) pos ts)
 case atStart=>exact⟨p0,[],hpos.2,rfl,by simp,hsc3,hb4,HS.out⟩
 case round=>
  obtain⟨pos,ts,hp,hg,hts,hsc,hbw,hscan⟩:=hrel;have HG:=Lib.hid hg;have HN:=Lib.hid hscan;clear hg hscan hsc3 hb4 HS;have hsc0:=hsc;obtain⟨v,hb,ho⟩:=hsc;have c1:=hb.c1;have c2:=hb.c2;have hresr:bG wr r:=by unfold bG;rw[hbw.block r hsz];exact hres
  by_cases hlt:pos<s.size
  ·have hd:decide ((pos:Int)<(s.size:Int))=true:=by simp;omega
   go_wp2_with fail
   refine(ac5 b pos s ts _ hsc0 hlt (by omega) (by omega)).mono ?_;rintro e w4 hgot;cases hone:jN s pos s[pos] with
   |error c=>
    rw[hone] at hgot;obtain⟨rfl,hb5⟩:=hgot;have HO:=Lib.hid hone;have hbb:=hbw.trans hb5;have hres4:bG w4 r:=by unfold bG;rw[hbb.block r hsz];exact hres
    clear hone hb5 c1 c2 hb ho hsc0 hresr;have f0:=hres4.f 0;have f1:=hres4.f 1;have d0:=hres4.c0;have d1:=hres4.c1;have hc0:=YR HO.out;have HF:=Lib.hid (VJ (ts:=ts) hlt HO.out)
    go_wp2_with fail
    refine bodyPost_ret (v:=.tuple #[.slice none 0 0,.agg #[.int .i64 c,.int .i64 (pos:Int)]]) (by simp[results,Tryz.results47,go_sem,d0,d1]) rfl ?_;rw[HN.out,HF.out];exact⟨rfl,hr ▸ (((hbl.trans (hbb.mono (by omega))).setCell (by simp;omega) _).setCell (by simp;omega) _)⟩
   |ok q=>
    obtain⟨t,j⟩:=q;rw[hone] at hgot;obtain⟨rfl,hsc5,hb5⟩:=hgot;have hbd:=JV hlt hone;have hk:=mg s j hbd.2;have HF:=Lib.hid (XT (ts:=ts) hlt hone);clear hone c1 c2 hb ho hsc0 hresr
    go_wp2_with fail
    refine(RV b j s _ _ hsc5 hbd.2 (by omega)).mono ?_;rintro e w5 ⟨rfl,hsc6,hb6⟩;generalize skipPos s j=q at *
    go_wp2_with fail
    go_roundg (s.size-q)
    case measure=>have:=HG.out;omega
    case rel=>exact⟨q,ts++[t],hk.2,rfl,by simp;omega,hsc6,(hbw.trans hb5).trans hb6,HN.out.trans HF.out⟩
  ·have hd:decide ((pos:Int)<(s.size:Int))=false:=by simp;omega
   have HF:=Lib.hid (VK (ts:=ts) hlt)
   go_wp2_with fail
   refine(TU b s pos ts 0 0 ⟨#[]⟩ s.size _ hsc0 (by omega) (.inr (.inr (by decide)))).mono ?_;rintro e w4 ⟨rfl,hsc5,hb5⟩;obtain⟨v4,hb6,ho6⟩:=hsc5;have hbb:=hbw.trans hb5;have hres4:bG w4 r:=by unfold bG;rw[hbb.block r hsz];exact hres
   rw[List.length_append] at ho6;obtain⟨g,cap,hv⟩:=EH ho6;rw[hv] at ho6 hb6;clear hv c1 c2 hb ho hsc0 hresr hb5;have f0:=hres4.f 0;have f1:=hres4.f 1;have d0:=hres4.c0;have d1:=hres4.c1;have c2:=hb6.c2;have hsz4:r<w4.heap.size:=by have:=hb6.lt;omega
   have hbl4:=hbl.trans (hbb.mono (by omega));have HO6:=Lib.hid ho6;clear ho6 hbb hbw
   go_wp2_with fail
   refine bodyPost_ret (v:=.tuple #[.slice (some ⟨g,0,none⟩) (ts.length+1) cap,.agg #[.int .i64 0,.int .i64 0]]) (by simp[results,Tryz.results47,go_sem,d0,d1]) rfl ?_;rw[HN.out,HF.out];refine⟨_,rfl,?_,hr ▸ ((hbl4.setCell (by simp;omega) _).setCell (by simp;omega) _)⟩;have ho7:=ownsRow_setCell_below (ownsRow_setCell_below HO6.out (a:=⟨r,0,none⟩) (by simp;omega) (.int .i64 0)) (a:=⟨r,1,none⟩) (by simp;omega) (.int .i64 0);rw[List.length_append,hr];exact JR ho7 (by omega)
theorem scan_any(s:ByteArray)(w:World)(hs:s.size≤maxLen):Calls Tryz.prog 47 #[.string s] w (Scanned w (scanP s)):=by
 by_cases h:60000<s.size
 ·exact Qf s w h hs
 ·by_cases hsp:0≤iU s
  ·exact Js s w h hsp
  ·exact VI s w h hsp
end Go.Proofs.YtfphhabaeggenaaGreatDoor.Lx
namespace Go.Proofs.YtfphhabaeggenaaGreatDoor.Lx
set_option maxRecDepth 20000
open Go.RowKit
abbrev LTok:=Int×List UInt8×Int×Nat
def putL(kind:Int)(x:List UInt8)(n:Int)(r:List UInt8):Except Int (Int×List UInt8×Int×List UInt8):=
 if kind≠3∧kind≠4∧40<x.length then .error 104 else .ok (kind,x,n,r)
def kindL(x:List UInt8):Int:=if keyList.contains x=true then 6 else if(x==[95])=true then 7 else if(match x with|[]=>false|c::_=>RN c)=true then 2 else 1
def oneL(l:List UInt8):Except Int (Int×List UInt8×Int×List UInt8):=
 match l with
 |[]=>.error 101
 |c::r=>
  if ND c=true∨RN c=true then putL (kindL (l.takeWhile bS)) (l.takeWhile bS) 0 (l.dropWhile bS)
  else if bJ c=true then
   (match uM (fF (l.takeWhile bJ)) with
    |none=>.error 102
    |some n=>putL 3 (fF (l.takeWhile bJ)) n (l.dropWhile bJ))
  else if c.toNat=34 then
   (match dW r with
    |none=>.error 103
    |some (x,r')=>putL 4 x 0 r')
  else if qX c=true then putL (if markList.contains (l.takeWhile qX)=true then 7 else 5) (l.takeWhile qX) 0 (l.dropWhile qX)
  else if markList.contains [c]=true then putL 7 [c] 0 r
  else .error 101
def scanL:Nat→List UInt8→Except (Int×Nat) (List LTok)
 |0,_=>.ok [(0,[],0,0)]
 |f+1,l=>
  match l with
  |[]=>.ok [(0,[],0,0)]
  |c::r=>
   match oneL (c::r) with
   |.error e=>.error (e,(c::r).length)
   |.ok (k,x,n,r')=>
    match scanL f (skipC false r') with
    |.error e=>.error e
    |.ok ts=>.ok ((k,x,n,(c::r).length)::ts)
def toTok(size:Nat)(t:LTok):Tok:=⟨t.1,textOf t.2.1,t.2.2.1,size-t.2.2.2⟩
def ze(s:ByteArray)(k:Nat)(o:Except Int (Int×List UInt8×Int×List UInt8)):Except Int (Tok×Nat):=
 match o with
 |.error e=>.error e
 |.ok (kind,x,n,r)=>.ok (⟨kind,textOf x,n,k⟩,s.size-r.length)
theorem RO{s:ByteArray}{x:List UInt8}(h:s.data.toList=x):s=textOf x:=by
 subst h;rfl
theorem Ls(p:UInt8→Bool)(s:ByteArray)(k:Nat)(h:k≤s.size):s.size-((s.data.toList.drop k).dropWhile p).length=nO p s k:=by
 have h1:=zW p s k;have h2:=vD p s k h;have hl:s.data.toList.length=s.size:=rfl;rw[←h1,List.length_drop];omega
theorem uG(s:ByteArray)(k j:Nat)(kind n:Int)(x r:List UInt8)(hj:s.size-r.length=j):ze s k (putL kind x n r)=sD kind (textOf x) n k j:=by
 unfold putL sD ze;have hsz:((textOf x).size:Int)=(x.length:Int):=by rw[textOf_size]
 by_cases h:kind≠3∧kind≠4∧40<x.length
 ·rw[if_pos h,if_pos (by omega)]
 ·rw[if_neg h,if_neg (by omega)]
  simp only[hj]
theorem Wl(x:List UInt8):zf (textOf x)=kindL x:=by
 unfold zf kindL Kg ZQ;rw[wJ,LQ];rfl
theorem YQ(s:ByteArray)(k:Nat)(h:k<s.size):jN s k s[k]=ze s k (oneL (s.data.toList.drop k)):=by
 have hl:s.data.toList.length=s.size:=rfl;have hin:∀p,s.extract k (nO p s k)=textOf ((s.data.toList.drop k).takeWhile p):=fun p=>RO (Pq p s k)
 have hone:s.extract k (k+1)=textOf [s[k]]:=RO (by rw[Lib.extract_data,Nat.add_sub_cancel_left,drop_at s k h];rfl);have hmark:∀x,za (textOf x)=markList.contains x:=fun x=>by unfold za;rw[wJ]
 have hd:=drop_at s k h;have key:oneL (s.data.toList.drop k)=oneL (s[k]::s.data.toList.drop (k+1)):=by rw[hd]
 rw[key];unfold jN oneL;simp only;by_cases h1:ND s[k]=true∨RN s[k]=true
 ·rw[if_pos h1,if_pos h1]
  unfold Bq;rw[hin,Wl,←hd];exact(uG s k _ _ _ _ _ (Ls bS s k (by omega))).symm
 ·rw[if_neg h1,if_neg h1]
  by_cases h2:bJ s[k]=true
  ·rw[if_pos h2,if_pos h2]
   unfold Nv numOf;rw[←hd];cases uM (fF ((s.data.toList.drop k).takeWhile bJ)) with
   |none=>rfl
   |some n=>exact(uG s k _ _ _ _ _ (Ls bJ s k (by omega))).symm
  ·rw[if_neg h2,if_neg h2]
   by_cases h3:s[k].toNat=34
   ·rw[if_pos h3,if_pos h3]
    unfold wI vG;cases dW (s.data.toList.drop (k+1)) with
    |none=>rfl
    |some p=>exact(uG s k _ _ _ _ _ rfl).symm
   ·rw[if_neg h3,if_neg h3]
    by_cases h4:qX s[k]=true
    ·rw[if_pos h4,if_pos h4]
     unfold XD;rw[hin,hmark,←hd];exact(uG s k _ _ _ _ _ (Ls qX s k (by omega))).symm
    ·rw[if_neg h4,if_neg h4,hone,hmark]
     by_cases h5:markList.contains [s[k]]=true
     ·rw[if_pos h5,if_pos h5]
      exact(uG s k _ _ _ _ _ (by rw[List.length_drop];omega)).symm
     ·rw[if_neg h5,if_neg h5]
      rfl
def liftScan(size:Nat)(ts:List Tok)(o:Except (Int×Nat) (List LTok)):Except (Int×Nat) (List Tok):=
 match o with
 |.error (c,m)=>.error (c,size-m)
 |.ok l=>.ok (ts++l.map (toTok size))
theorem lg:∀(b:Bool) (l:List UInt8),∃n,skipC b l=l.drop n
 |_,[]=>⟨0,by simp[skipC]⟩
 |true,c::r=>by
  simp only[skipC];split
  ·obtain⟨n,h⟩:=lg false r;exact⟨n+1,by simpa using h⟩
  ·obtain⟨n,h⟩:=lg true r;exact⟨n+1,by simpa using h⟩
 |false,c::r=>by
  simp only[skipC];split
  ·obtain⟨n,h⟩:=lg false r;exact⟨n+1,by simpa using h⟩
  ·split
   ·obtain⟨n,h⟩:=lg true r;exact⟨n+1,by simpa using h⟩
   ·exact⟨0,rfl⟩
theorem drop_skipPos(s:ByteArray)(j:Nat):s.data.toList.drop (skipPos s j)=skipC false (s.data.toList.drop j):=by
 obtain⟨n,h⟩:=lg false (s.data.toList.drop j);have hl:s.data.toList.length=s.size:=rfl;unfold skipPos;rw[h,List.drop_drop,List.length_drop];by_cases hn:j+n≤s.size
 ·congr 1;omega
 ·rw[List.drop_eq_nil_of_le (by omega),List.drop_eq_nil_of_le (by omega)]
theorem aaW(s:ByteArray)(r:List UInt8)(n:Nat)(h:r=s.data.toList.drop n):s.data.toList.drop (s.size-r.length)=r:=by
 have hl:s.data.toList.length=s.size:=rfl;subst h;rw[List.length_drop];by_cases hn:n≤s.size
 ·congr 1;omega
 ·rw[List.drop_eq_nil_of_le (by omega),List.drop_eq_nil_of_le (by omega)]
theorem rV:∀(n:Nat) (l x r:List UInt8),l.length≤n→dW l=some (x,r)→∃m,r=l.drop m
 |0,l,x,r,hn,h=>by
  have:l=[]:=List.eq_nil_of_length_eq_zero (by omega);subst this;cases h
 |n+1,[],x,r,hn,h=>by cases h
 |n+1,c::l,x,r,hn,h=>by
  rw[ko] at h;simp only[List.length_cons] at hn;split at h
  ·cases h;exact⟨1,rfl⟩
  ·split at h
   ·cases h
   ·split at h
    ·cases l with
     |nil=>cases h
     |cons d l'=>
      simp only at h;split at h
      ·cases h
      ·cases h2:dW l' with
       |none=>rw[h2] at h;cases h
       |some p=>
        rw[h2] at h;obtain⟨m,hm⟩:=rV n l' p.1 p.2 (by simp only[List.length_cons] at hn;omega) h2;cases h;exact⟨m+2,by simpa using hm⟩
    ·cases h2:dW l with
     |none=>rw[h2] at h;cases h
     |some p=>
      rw[h2] at h;obtain⟨m,hm⟩:=rV n l p.1 p.2 (by omega) h2;cases h;exact⟨m+1,by simpa using hm⟩
theorem putL_rest{kind kind' n n':Int}{x x' r r':List UInt8}(h:putL kind x n r=.ok (kind',x',n',r')):r=r'∧kind=kind'∧x=x'∧n=n':=by
 unfold putL at h;split at h
 ·cases h
 ·cases h;exact⟨rfl,rfl,rfl,rfl⟩
theorem dropWhile_suffix(p:UInt8→Bool)(c:UInt8)(r:List UInt8)(h:p c=true):∃m,(c::r).dropWhile p=r.drop m:=by
 rw[List.dropWhile_cons_of_pos h,←pJ];exact⟨_,rfl⟩
theorem BM{c:UInt8}{l:List UInt8}{k n:Int}{x r:List UInt8}(h:oneL (c::l)=.ok (k,x,n,r)):∃m,r=l.drop m:=by
 unfold oneL at h;simp only at h;split at h
 ·rename_i hc
  rw[←(putL_rest h).1];exact dropWhile_suffix bS c l (by rcases hc with hc|hc<;>simp[bS,hc])
 ·split at h
  ·rename_i hd
   split at h
   ·cases h
   ·rw[←(putL_rest h).1]
    exact dropWhile_suffix bJ c l hd
  ·split at h
   ·split at h
    ·cases h
    ·rename_i hx
     rw[←(putL_rest h).1];exact rV _ _ _ _ (Nat.le_refl _) hx
   ·split at h
    ·rename_i hs
     rw[←(putL_rest h).1];exact dropWhile_suffix qX c l hs
    ·split at h
     ·rw[←(putL_rest h).1]
      exact⟨0,rfl⟩
     ·cases h
theorem oneL_shorter{c:UInt8}{l:List UInt8}{k n:Int}{x r:List UInt8}(h:oneL (c::l)=.ok (k,x,n,r)):(skipC false r).length≤l.length:=by
 obtain⟨m,rfl⟩:=BM h;have:=skipC_length false (l.drop m);rw[List.length_drop] at this;omega
theorem scanL_two:∀(f g:Nat) (l:List UInt8),l.length<f→l.length<g→scanL f l=scanL g l
 |0,_,l,h,_=>by omega
 |_+1,0,l,_,h=>by omega
 |f+1,g+1,[],_,_=>rfl
 |f+1,g+1,c::l,h,h'=>by
  simp only[scanL];cases h1:oneL (c::l) with
  |error e=>rfl
  |ok q=>
   obtain⟨k,x,n,r⟩:=q;have hs:=oneL_shorter h1;simp only[List.length_cons] at h h';simp only;rw[scanL_two f g _ (by omega) (by omega)]
theorem HV(s:ByteArray):∀(f pos:Nat) (ts:List Tok),pos≤s.size→s.size-pos<f→jA s f pos ts=liftScan s.size ts (scanL f (s.data.toList.drop pos))
 |0,pos,ts,_,h=>by omega
 |f+1,pos,ts,hp,h=>by
  have hl:s.data.toList.length=s.size:=rfl;by_cases hlt:pos<s.size
  ·simp only[jA,hlt,dif_pos]
   rw[YQ s pos hlt,drop_at s pos hlt];simp only[scanL];cases h1:oneL (s[pos]::s.data.toList.drop (pos+1)) with
   |error e=>
    simp only[ze,liftScan,List.length_cons,List.length_drop,hl];have:s.size-(s.size-(pos+1)+1)=pos:=by omega
    rw[this]
   |ok q=>
    obtain⟨k,x,n,r⟩:=q;obtain⟨m,hm⟩:=BM h1;rw[List.drop_drop] at hm;have hr:=aaW s r _ hm;simp only[ze];have hrl:r.length≤s.size-(pos+1):=by
     rw[hm,List.length_drop];omega
    have hj:pos<s.size-r.length:=by omega
    have hk:=mg s (s.size-r.length) (by omega);rw[HV s f _ _ hk.2 (by omega),drop_skipPos,hr];cases scanL f (skipC false r) with
    |error e=>rfl
    |ok l=>
     simp only[liftScan,List.map_cons,List.append_assoc,List.singleton_append,toTok,List.length_cons,List.length_drop,hl];have:s.size-(s.size-(pos+1)+1)=pos:=by omega
     rw[this]
  ·have e:s.data.toList.drop pos=[]:=List.drop_eq_nil_of_le (by omega)
   simp only[jA,hlt,dif_neg,not_false_eq_true,e,scanL,liftScan,List.map_cons,List.map_nil,toTok,KU];rfl
def scanAll(l:List UInt8):Except (Int×Nat) (List LTok):=scanL (l.length+1) (skipC false l)
theorem Jt(s:ByteArray):jA s (s.size+1) (skipPos s 0) []=liftScan s.size [] (scanAll s.data.toList):=by
 have hk:=mg s 0 (Nat.zero_le _);rw[HV s _ _ _ hk.2 (by omega),drop_skipPos];rfl
end Go.Proofs.YtfphhabaeggenaaGreatDoor.Lx
namespace Go.Proofs.YtfphhabaeggenaaGreatDoor.Lx
set_option maxRecDepth 20000
open Go.RowKit
def IZ(l:List UInt8)(k:Nat):Nat:=(l.getD k 0).toNat
def afO(l:List UInt8):Nat×Nat:=Lib.decodeN l.length (IZ l 0) (IZ l 1) (IZ l 2) (IZ l 3)
def agc(l:List UInt8):Bool:=((afO l).1:Int)==65533 && !Lib.hasPrefix l [239,191,189]
def DY:Nat→List UInt8→Option Nat
 |0,_=>none
 |f+1,l=>if l=[] then none else if agc l=true then some l.length else DY f (l.drop (afO l).2)
theorem zx(s:ByteArray)(i k:Nat):(s.get! (i+k)).toNat=IZ (s.data.toList.drop i) k:=by
 unfold IZ;have:s.get! (i+k)=(s.data.toList.drop i).getD k 0:=by
  rw[List.getD_eq_getElem?_getD,List.getElem?_drop,Array.getElem?_toList];by_cases h:i+k<s.data.size
  ·rw[show s.get! (i+k)=s.data[i+k]! from rfl,getElem!_pos s.data (i+k) h,Array.getElem?_eq_getElem h]
   rfl
  ·rw[show s.get! (i+k)=s.data[i+k]! from rfl,getElem!_neg s.data (i+k) h,Array.getElem?_eq_none (by omega)]
   rfl
 rw[this]
theorem OY(s:ByteArray)(i:Nat):Utf8.decode s i=afO (s.data.toList.drop i):=by
 rw[Lib.decode_at];unfold afO;have h0:=zx s i 0;rw[Nat.add_zero] at h0;rw[h0,zx s i 1,zx s i 2,zx s i 3,List.length_drop];rfl
theorem abt(s:ByteArray)(i:Nat):zO s i=agc (s.data.toList.drop i):=by
 unfold zO agc;have hl:s.data.toList.length=s.size:=rfl;rw[OY,Lib.extract_data,List.take_of_length_le (by rw[List.length_drop];omega)]
theorem DX(s:ByteArray):∀(f pos:Nat),iV s f pos=match DY f (s.data.toList.drop pos) with|none=>-1|some m=>((s.size-m:Nat):Int)
 |0,pos=>rfl
 |f+1,pos=>by
  have hl:s.data.toList.length=s.size:=rfl;by_cases h:pos<s.size
  ·have hne:s.data.toList.drop pos≠[]:=by rw[drop_at s pos h];simp
   simp only[iV,DY,h,if_true,hne,if_false,abt];by_cases hb:agc (s.data.toList.drop pos)=true
   ·simp only[hb,if_true,List.length_drop,hl]
    have:s.size-(s.size-pos)=pos:=by omega
    rw[this]
   ·simp only[hb,if_false,List.drop_drop,OY,Bool.false_eq_true]
    exact DX s f _
  ·have he:s.data.toList.drop pos=[]:=List.drop_eq_nil_of_le (by omega)
   simp[iV,DY,h,he]
def spoilAll(l:List UInt8):Option Nat:=DY (l.length+1) l
theorem Me(s:ByteArray):iU s=match spoilAll s.data.toList with|none=>-1|some m=>((s.size-m:Nat):Int):=DX s (s.size+1) 0
end Go.Proofs.YtfphhabaeggenaaGreatDoor.Lx
namespace Go.Proofs.YtfphhabaeggenaaGreatDoor.Lx
set_option maxRecDepth 20000
theorem scanP_form(s:ByteArray)(h:s.size≤60000):scanP s=match spoilAll s.data.toList with|some m=>.error (100,s.size-m)|none=>liftScan s.size [] (scanAll s.data.toList):=by
 unfold scanP;rw[if_neg (by omega),Me];cases spoilAll s.data.toList with
 |none=>simp only;rw[if_neg (by omega)];exact Jt s
 |some m=>simp only;rw[if_pos (by omega)];rfl
end Go.Proofs.YtfphhabaeggenaaGreatDoor.Lx
namespace Go.Proofs.YtfphhabaeggenaaGreatDoor
open Go.RowKit
section
variable(P:Program)(S:Nat→List Shape)(E:Nat→gJ)(T:Nat→Et)
def fnB(k f:Nat)(t:FT):Bool:=match(E k).base,(E k).lp with
 |none,none=>Nat.beq (E k).f f&&Pz S E (E k) (T k) (E k).n (E k).rin&&jF (E k).n (iK (E k).args++kH (E k).h)&&K7 P (Iw P t f (E k).args (E k).h) (erase S E (E k) (T k) (E k).n) (E k).n [] [] []
 |_,_=>false
def lpC(k f id:Nat)(fn:Func)(t:FT):Bool:=match(E k).base,(E k).lp with
 |none,some (i,m0)=>Nat.beq i id&&Nat.beq (E k).f f&&Pz S E (E k) (T k) (E k).n (E k).rin&&jF (E k).n (uO (E k).e++kH (E k).h)&&K7 P (Zx P fn t (lb fn id) m0 (E k).e (E k).h) (erase S E (E k) (T k) (E k).n) (E k).n [] [] []
 |_,_=>false
end
section
variable{P:Program}{S:Nat→List Shape}{E:Nat→gJ}{T:Nat→Et}{k f:Nat}{fn:Func}{t:FT}
theorem rF(hm:P.follows .mixedOrders=true)(h1:P.funcs[f]? = some fn)(h2:fn.body.isSome=true)(h3:tabOk t.sd t.sx (cO fn)=true)(h:fnB P S E T k f t=true):aL P S E T k:=by
 unfold fnB at h;split at h
 ·rename_i hb hl
  simp only[Bool.and_eq_true] at h;obtain⟨⟨⟨g1,g2⟩,g3⟩,g4⟩:=h;have g1:=Nat.eq_of_beq_eq_true g1;subst g1;exact aL.fn rfl rfl hb hl h1 g2 rfl fun l v h' h0 hn a b hd=>zy h1 h2 hm h3 g3 g4 h0 hn a b hd
 ·cases h
theorem rL{id:Nat}(hm:P.follows .mixedOrders=true)(h1:P.funcs[f]? = some fn)(h2:fV (subs id (cO fn))=true)(h3:tabOk t.sd t.sx (lb fn id)=true)(h:lpC P S E T k f id fn t=true):aL P S E T k:=by
 unfold lpC at h;split at h
 ·rename_i i m0 hb hl
  simp only[Bool.and_eq_true] at h;obtain⟨⟨⟨⟨g0,g1⟩,g2⟩,g3⟩,g4⟩:=h;have g1:=Nat.eq_of_beq_eq_true g1;have g0:=Nat.eq_of_beq_eq_true g0;subst g1;subst g0;exact aL.loop rfl rfl hb hl h1 g2 rfl fun l ex e' h' h0 hn a b hd=>WK h2 hm h3 g3 g4 h0 hn a b hd
 ·cases h
theorem rF2(hm:P.follows .mixedOrders=true)(h1:P.funcs[f]? = some fn)(h:(fn.body.isSome&&tabOk t.sd t.sx (cO fn)&&fnB P S E T k f t)=true):aL P S E T k:=by
 rw[Bool.and_eq_true,Bool.and_eq_true] at h;exact rF hm h1 h.1.1 h.1.2 h.2
theorem rL2{id:Nat}(hm:P.follows .mixedOrders=true)(h1:P.funcs[f]? = some fn)(h:(fV (subs id (cO fn))&&tabOk t.sd t.sx (lb fn id)&&lpC P S E T k f id fn t)=true):aL P S E T k:=by
 rw[Bool.and_eq_true,Bool.and_eq_true] at h;exact rL hm h1 h.1.1 h.1.2 h.2
end
end Go.Proofs.YtfphhabaeggenaaGreatDoor
namespace Go.Proofs.YtfphhabaeggenaaGreatDoor
open Go.RowKit
structure Tk where
 kind:Int
 text:ByteArray
 n:Int
 at_:Int
def Tk.cells(t:Tk):List PV:=[iv t.kind,sv t.text,iv t.n,iv t.at_]
def dA(l:List Tk):PV:=.rows (l.map Tk.cells)
def ofTok(t:Lx.Tok):Tk:=⟨t.kind,t.text,t.n,(t.at_:Int)⟩
def qb(r:Except (Int×Nat) (List Lx.Tok)):PV×Int×Int:=match r with
 |.ok ts=>(dA (ts.map ofTok),0,0)
 |.error (c,p)=>(.lit (.slice none 0 0),c,(p:Int))
def agh:List PV→Option Rs
 |[]=>some (0,[.lit (.bool true)])
 |_=>none
def QG(r:Except (Int×Nat) (List Lx.Tok)):Bool:=match r with
 |.ok []=>true
 |_=>false
def XO:List PV→Option Rs
 |[.lit (.string b)]=>if b.size≤1000000∧QG (Lx.scanP b)=false then some (0,[(qb (Lx.scanP b)).1,iv (qb (Lx.scanP b)).2.1,iv (qb (Lx.scanP b)).2.2]) else none
 |_=>none
def Cj(n:Nat)(es:List (List PV)):Bool:=es.all (fun c=>decide (c.length=n))&&decide (es.length≤1000000)
def F8(n:Nat):List PV→Option Rs
 |[.lit (.slice none 0 0)]=>some (0,[.lit (.slice none 0 0)])
 |[.rows es]=>if Cj n es=true then some (0,[.rows es]) else none
 |_=>none
def wk1:PV→PV
 |.lit (.slice none 0 0)=>.rows []
 |p=>p
def Ch(l:List PV):List PV:=l.map wk1
def aa4:List PV→Option Rs
 |[.rows (e::es)]=>if Cj 5 (e::es)=true then some (0,[.rows (e::es),.rows ((e::es).map Ch)]) else none
 |_=>none
end Go.Proofs.YtfphhabaeggenaaGreatDoor
