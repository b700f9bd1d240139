/- Joined texts. -/
import Derived.Test.YtfphhabaeggenaaDoorBa
import Derived.Laws.MakeOwn
import Derived.MapKept
import Derived.Lib.SliceRun
set_option linter.all false
namespace Go.Proofs.YtfphhabaeggenaaDoor
open Go.RowKit
def posOf(i:Nat):List Nat→Option Nat
 |[]=>none
 |x::l=>if x=i then some 0 else(posOf i l).map (· + 1)
theorem posOf_some{i:Nat}:∀{l:List Nat} {j:Nat},posOf i l=some j→l[j]? = some i
 |[],j,h=>by cases h
 |x::l,j,h=>by
  rw[posOf] at h
  split at h
  ·rename_i e;cases h;subst e;rfl
  ·obtain⟨k,hk,e⟩:=map_some' h
   subst e
   simpa using posOf_some hk
def nodupB:List Nat→Bool
 |[]=>true
 |x::l=>!(l.elem x)&&nodupB l
theorem nodupB_inj:∀{l:List Nat},nodupB l=true→∀{i j x:Nat},l[i]? = some x→l[j]? = some x→i=j
 |[],_,i,j,x,h,_=>by simp at h
 |y::l,h,i,j,x,hi,hj=>by
  rw[nodupB,Bool.and_eq_true] at h
  have hn:∀k:Nat,l[k]? = some y→False:=by
   intro k hk
   have:=List.mem_of_getElem? hk
   simp[this] at h
  cases i with
  |zero=>
   cases j with
   |zero=>rfl
   |succ j=>simp at hi hj;subst hi;exact(hn j hj).elim
  |succ i=>
   cases j with
   |zero=>simp at hi hj;subst hj;exact(hn i hi).elim
   |succ j=>simp at hi hj;rw[nodupB_inj h.2 hi hj]
def Kn.sub(K:Kn)(ids:List Nat):Kn:={K with mu:=fun k=>(ids[k]?).bind K.mu,N:=fun k=>match ids[k]? with
 |some i=>K.N i
 |none=>0 }
theorem N_sub{K:Kn}{ids:List Nat}{k i:Nat}(h:ids[k]? = some i):(K.sub ids).N k=K.N i:=by
 show (match ids[k]? with|some i=>K.N i|none=>0)=K.N i
 rw[h]
theorem sub_mu{K:Kn}{ids:List Nat}{k g:Nat}(h:(K.sub ids).mu k=some g):∃i,ids[k]? = some i∧K.mu i=some g:=by
 change (ids[k]?).bind K.mu=some g at h
 cases hi:ids[k]? with
 |none=>rw[hi] at h;cases h
 |some i=>rw[hi] at h;exact⟨i,rfl,h⟩
theorem mu_sub{K:Kn}{ids:List Nat}{k i:Nat}(h:ids[k]? = some i):(K.sub ids).mu k=K.mu i:=by
 show (ids[k]?).bind K.mu=K.mu i
 rw[h];rfl
theorem Ren.sub(K:Kn)(ids:List Nat):Ren (fun i=>posOf i ids) K (K.sub ids):=
 ⟨rfl,rfl,rfl,rfl,fun i j g hf hm=>by rw[mu_sub (posOf_some hf)];exact hm,fun i j g hf _=>N_sub (posOf_some hf)⟩
def subH(h:List AObj)(ids:List Nat):Option (List AObj):=match pickH h ids with
 |some r=>renH (fun i=>posOf i ids) r
 |none=>none
theorem subH_spec{h:List AObj}{ids:List Nat}{hs:List AObj}(hh:subH h ids=some hs):hs.length=ids.length∧∀(k:Nat) y,hs[k]? = some y→∃i x,ids[k]? = some i∧h[i]? = some x∧renO (fun i=>posOf i ids) x=some y:=by
 unfold subH at hh
 split at hh
 ·rename_i r hr
  refine⟨by rw[renH_len hh,pickH_len hr],fun k y hy=>?_⟩
  obtain⟨x,hx,hxy⟩:=renH_at hh k y hy
  obtain⟨i,hi,hix⟩:=pickH_at hr k x hx
  exact⟨i,x,hi,hix,hxy⟩
 ·cases hh
theorem subH_all{h:List AObj}{ids:List Nat}{hs:List AObj}(hh:subH h ids=some hs){k i:Nat}(hk:ids[k]? = some i):i<h.length:=by
 obtain⟨hl,hs'⟩:=subH_spec hh
 have hlt:k<hs.length:=by
  rw[hl]
  by_cases hlt:k<ids.length
  ·exact hlt
  ·rw[List.getElem?_eq_none (by omega)] at hk;cases hk
 obtain⟨i',x,hi,hx,_⟩:=hs' k hs[k] (List.getElem?_eq_getElem hlt)
 rw[hk] at hi
 cases hi
 by_cases hlt:i<h.length
 ·exact hlt
 ·rw[List.getElem?_eq_none (by omega)] at hx;cases hx
theorem WR.sub{K:Kn}{h:List AObj}{w:World}(H:WR K h w){ids:List Nat}{hs:List AObj}(hn:nodupB ids=true)(hh:subH h ids=some hs):WR (K.sub ids) hs w:=by
 obtain⟨hl,hsp⟩:=subH_spec hh
 have R:=Ren.sub K ids
 refine⟨fun k hk=>?_,fun k hk=>?_,fun k g hk=>?_,fun k ty cells hk=>?_,fun k ty sz len hk=>?_,fun a b x y g ha hb hlx hly hma hmb=>?_,fun k ty cells g hk hm o=>?_,H.agr,fun k ty sz p hk=>?_⟩
 ·show (ids[k]?).bind K.mu=none
  rw[List.getElem?_eq_none (by omega)];rfl
 ·have hk':k<ids.length:=by omega
  have e:=List.getElem?_eq_getElem hk'
  obtain⟨g,hg⟩:=H.has _ (subH_all hh e)
  exact⟨g,by rw[mu_sub e];exact hg⟩
 ·obtain⟨i,_,hm⟩:=sub_mu hk
  exact H.lt i g hm
 ·obtain⟨i,x,hi,hx,hxy⟩:=hsp k _ hk
  cases x with
  |box ty' c=>
   rw[renO] at hxy
   obtain⟨l',hl',e⟩:=map_some' hxy
   cases e
   obtain⟨g,cs,hm,hw,hs,hv⟩:=H.box i ty c hx
   exact⟨g,cs,by rw[mu_sub hi];exact hm,hw,hs,renL_sound R (by rw[renL_len hl'];exact hv) hl'⟩
  |tok=>rw[renO] at hxy;cases hxy
  |dead=>rw[renO] at hxy;cases hxy
  |arr=>rw[renO] at hxy;cases hxy
 ·obtain⟨i,x,hi,hx,hxy⟩:=hsp k _ hk
  cases x with
  |box ty' c=>rw[renO] at hxy;obtain⟨l',hl',e⟩:=map_some' hxy;cases e
  |tok ty' sz' len'=>
   rw[renO] at hxy
   cases hxy
   obtain⟨g,cs,hm,rest⟩:=H.tok i ty sz len hx
   exact⟨g,cs,by rw[mu_sub hi];exact hm,rest⟩
  |dead=>rw[renO] at hxy;cases hxy
  |arr=>rw[renO] at hxy;cases hxy
 ·obtain⟨i,x',hi,hx,hxy⟩:=hsp a _ ha
  obtain⟨j,y',hj,hy,hyy⟩:=hsp b _ hb
  rw[mu_sub hi] at hma
  rw[mu_sub hj] at hmb
  have:=H.inj i j x' y' g hx hy (by rw[←renO_live hxy];exact hlx) (by rw[←renO_live hyy];exact hly) hma hmb
  subst this
  exact nodupB_inj hn hi hj
 ·obtain⟨i,x,hi,hx,hxy⟩:=hsp k _ hk
  rw[mu_sub hi] at hm
  cases x with
  |box ty' c=>exact H.apart i ty' c g hx hm o
  |tok=>rw[renO] at hxy;cases hxy
  |dead=>rw[renO] at hxy;cases hxy
  |arr=>rw[renO] at hxy;cases hxy
 ·obtain⟨i,x,hi,hx,hxy⟩:=hsp k _ hk
  cases x with
  |box ty' c=>rw[renO] at hxy;obtain⟨l',hl',e⟩:=map_some' hxy;cases e
  |tok=>rw[renO] at hxy;cases hxy
  |dead=>rw[renO] at hxy;cases hxy
  |arr ty' sz' p'=>
   rw[renO] at hxy
   cases hxy
   obtain⟨g,cs,hm,hw,hs,ha⟩:=H.arr i ty sz p hx
   exact⟨g,cs,by rw[mu_sub hi];exact hm,hw,hs,ha.go ha.none rfl (N_sub hi) rfl rfl (fun _ _ _ h=>h)⟩
theorem liveB_sub{K:Kn}{h:List AObj}{ids:List Nat}{hs:List AObj}(hh:subH h ids=some hs){b:Nat}(hb:(K.sub ids).liveB hs b):∃(k i:Nat) (x:AObj),ids[k]? = some i∧h[i]? = some x∧x.live=true∧K.mu i=some b:=by
 obtain⟨k,y,hk,hl,hm⟩:=hb
 obtain⟨i,x,hi,hx,hxy⟩:=(subH_spec hh).2 k y hk
 exact⟨k,i,x,hi,hx,by rw[←renO_live hxy];exact hl,by rw[mu_sub hi] at hm;exact hm⟩
theorem Step.sub{K K':Kn}{h h':List AObj}{w w':World}(H:WR K h w)(S:Step K h w K' h' w'){ids:List Nat}{hs:List AObj}(hn:nodupB ids=true)(hh:subH h' ids=some hs)
  (hpre:∀k,k<h.length→ids[k]? = some k):Step K h w (K'.sub ids) hs w':=by
 have hlen:h.length≤ids.length:=by
  cases hl:h.length with
  |zero=>omega
  |succ n=>
   have:=hpre n (by omega)
   by_cases hlt:n<ids.length
   ·omega
   ·rw[List.getElem?_eq_none (by omega)] at this;cases this
 have hsl:=(subH_spec hh).1
 have hdef:∀i g,K.mu i=some g→i<h.length:=by
  intro i g hi
  by_cases hlt:i<h.length
  ·exact hlt
  ·rw[H.fresh i (by omega)] at hi;cases hi
 refine⟨S.wr.sub hn hh,⟨S.ext.M,fun i g hi=>?_,S.ext.Z,S.ext.E,S.ext.R,fun i g hi=>by rw[N_sub (hpre i (hdef i g hi))];exact S.ext.N i g hi⟩,S.frm,S.zs,S.ms,fun k b hk=>?_,fun b hb hlt=>?_,by omega⟩
 ·rw[mu_sub (hpre i (hdef i g hi))];exact S.ext.mu i g hi
 ·obtain⟨i,hi,hm⟩:=sub_mu hk
  rcases S.mu i b hm with h1|h1
  ·have:=nodupB_inj hn hi (hpre i (hdef i b h1))
   subst this
   exact .inl h1
  ·exact .inr h1
 ·obtain⟨k,i,x,hi,hx,hl,hm⟩:=liveB_sub hh hb
  exact S.live b ⟨i,x,hx,hl,hm⟩ hlt
def overlay(h:List AObj):List Nat→List AObj→List AObj
 |i::ids,x::l=>overlay (h.set i x) ids l
 |_,_=>h
theorem overlay_len:∀(ids:List Nat) (l:List AObj) (h:List AObj),(overlay h ids l).length=h.length
 |[],l,h=>by simp[overlay]
 |i::ids,[],h=>by simp[overlay]
 |i::ids,x::l,h=>by rw[overlay,overlay_len ids l];simp
theorem overlay_at:∀(ids:List Nat) (l:List AObj) (h:List AObj),nodupB ids=true→ids.length≤l.length→∀(i:Nat) y,(overlay h ids l)[i]? = some y→
  (∃k:Nat,ids[k]? = some i∧l[k]? = some y)∨((∀k:Nat,ids[k]?≠some i)∧h[i]? = some y)
 |[],l,h,_,_,i,y,hy=>by
  have e:overlay h [] l=h:=by simp[overlay]
  rw[e] at hy
  exact .inr ⟨fun k=>by simp,hy⟩
 |j::ids,[],h,_,hl,i,y,hy=>by simp at hl
 |j::ids,x::l,h,hn,hl,i,y,hy=>by
  rw[overlay] at hy
  have hn2:=hn
  rw[nodupB,Bool.and_eq_true] at hn2
  rcases overlay_at ids l (h.set j x) hn2.2 (by simpa using hl) i y hy with⟨k,h1,h2⟩|⟨h1,h2⟩
  ·exact .inl ⟨k+1,by simpa using h1,by simpa using h2⟩
  ·rw[List.getElem?_set] at h2
   by_cases e:j=i
   ·subst e
    rw[if_pos rfl] at h2
    split at h2
    ·cases h2;exact .inl ⟨0,rfl,rfl⟩
    ·cases h2
   ·rw[if_neg e] at h2
    refine .inr ⟨fun k=>?_,h2⟩
    cases k with
    |zero=>simpa using e
    |succ k=>simpa using h1 k
def backF(ids:List Nat)(n:Nat)(k:Nat):Option Nat:=match ids[k]? with
 |some i=>some i
 |none=>some (n+(k-ids.length))
def Kn.merge(K Ks:Kn)(ids:List Nat)(n:Nat):Kn:={Ks with mu:=fun i=>if i<n then K.mu i else Ks.mu (ids.length+(i-n)),N:=fun i=>if i<n then K.N i else Ks.N (ids.length+(i-n)) }
def mergeH(h:List AObj)(ids:List Nat)(hs':List AObj):Option (List AObj):=match renH (backF ids h.length) hs' with
 |some hb=>some (overlay h ids hb++hb.drop ids.length)
 |none=>none
theorem merge_sound{K Ks:Kn}{h hs hs' h':List AObj}{w w':World}{ids:List Nat}(H:WR K h w)(hn:nodupB ids=true)(hh:subH h ids=some hs)(S:Step (K.sub ids) hs w Ks hs' w')(hm:mergeH h ids hs'=some h') :
  Step K h w (K.merge Ks ids h.length) h' w'∧Ren (backF ids h.length) Ks (K.merge Ks ids h.length)∧Frm (K.at h ids) w w':=by
 unfold mergeH at hm
 split at hm
 ·rename_i hb hrb
  cases hm
  have hsl:=(subH_spec hh).1
  have hbl:=renH_len hrb
  have hle:=S.len
  have hmu1:∀i,i<h.length→(K.merge Ks ids h.length).mu i=K.mu i:=fun i hi=>by show (if i<h.length then _ else _)=_;rw[if_pos hi]
  have hmu2:∀i,h.length≤i→(K.merge Ks ids h.length).mu i=Ks.mu (ids.length+(i-h.length)):=fun i hi=>by show (if i<h.length then _ else _)=_;rw[if_neg (by omega)]
  have hN1:∀i,i<h.length→(K.merge Ks ids h.length).N i=K.N i:=fun i hi=>by show (if i<h.length then _ else _)=_;rw[if_pos hi]
  have hN2:∀i,h.length≤i→(K.merge Ks ids h.length).N i=Ks.N (ids.length+(i-h.length)):=fun i hi=>by show (if i<h.length then _ else _)=_;rw[if_neg (by omega)]
  have hold:∀k i,ids[k]? = some i→∃g,K.mu i=some g∧Ks.mu k=some g:=by
   intro k i hk
   obtain⟨g,hg⟩:=H.has i (subH_all hh hk)
   exact⟨g,hg,S.ext.mu k g (by rw[mu_sub hk];exact hg)⟩
  have holdN:∀k i,ids[k]? = some i→Ks.N k=K.N i:=by
   intro k i hk
   obtain⟨g,hg⟩:=H.has i (subH_all hh hk)
   rw[←N_sub hk]
   exact S.ext.N k g (by rw[mu_sub hk];exact hg)
  have R:Ren (backF ids h.length) Ks (K.merge Ks ids h.length):=by
   refine⟨rfl,rfl,rfl,rfl,fun k j g hf hg=>?_,fun k j g hf hg=>?_⟩
   rotate_left
   ·unfold backF at hf
    split at hf
    ·rename_i i hi
     cases hf
     rw[hN1 j (subH_all hh hi)];exact(holdN k j hi).symm
    ·rename_i hi
     cases hf
     have hkl:ids.length≤k:=by
      by_cases hlt:k<ids.length
      ·rw[List.getElem?_eq_getElem hlt] at hi;cases hi
      ·omega
     rw[hN2 _ (by omega),show ids.length+(h.length+(k-ids.length)-h.length)=k by omega]
   unfold backF at hf
   split at hf
   ·rename_i i hi
    cases hf
    obtain⟨g',h1,h2⟩:=hold k j hi
    rw[hg] at h2
    cases h2
    rw[hmu1 j (subH_all hh hi)];exact h1
   ·rename_i hi
    cases hf
    have hkl:ids.length≤k:=by
     by_cases hlt:k<ids.length
     ·rw[List.getElem?_eq_getElem hlt] at hi;cases hi
     ·omega
    rw[hmu2 _ (by omega),show ids.length+(h.length+(k-ids.length)-h.length)=k by omega];exact hg
  have hX:Ext K (K.merge Ks ids h.length):=by
   refine⟨S.ext.M,fun i g hi=>?_,fun i g hi=>(S.zs g (H.lt i g hi)).1,fun i g hi=>(S.zs g (H.lt i g hi)).2,S.ext.R,fun i g hi=>?_⟩
   rotate_left
   ·have hil:i<h.length:=by
     by_cases hlt:i<h.length
     ·exact hlt
     ·rw[H.fresh i (by omega)] at hi;cases hi
    exact hN1 i hil
   have hil:i<h.length:=by
    by_cases hlt:i<h.length
    ·exact hlt
    ·rw[H.fresh i (by omega)] at hi;cases hi
   rw[hmu1 i hil];exact hi
  have hfar:∀i x g,h[i]? = some x→x.live=true→K.mu i=some g→(∀k:Nat,ids[k]?≠some i)→¬(K.sub ids).liveB hs g:=by
   intro i x g hx hl hg hni hlb
   obtain⟨k,j,y,hj,hy,hly,hmj⟩:=liveB_sub hh hlb
   have:=H.inj i j x y g hx hy hl hly hg hmj
   subst this
   exact hni k hj
  have hcase:∀(i:Nat) y,(overlay h ids hb++hb.drop ids.length)[i]? = some y→
    (∃k x,hs'[k]? = some x∧renO (backF ids h.length) x=some y∧(K.merge Ks ids h.length).mu i=Ks.mu k∧((i<h.length∧ids[k]? = some i)∨(h.length≤i∧k=ids.length+(i-h.length))))∨
    (i<h.length∧(∀k:Nat,ids[k]?≠some i)∧h[i]? = some y):=by
   intro i y hy
   by_cases hil:i<h.length
   ·rw[List.getElem?_append_left (by rw[overlay_len];exact hil)] at hy
    rcases overlay_at ids hb h hn (by omega) i y hy with⟨k,h1,h2⟩|⟨h1,h2⟩
    ·obtain⟨x,hx,hxy⟩:=renH_at hrb k y h2
     obtain⟨g,g1,g2⟩:=hold k i h1
     exact .inl ⟨k,x,hx,hxy,by rw[hmu1 i hil,g1,g2],.inl ⟨hil,h1⟩⟩
    ·exact .inr ⟨hil,h1,h2⟩
   ·rw[List.getElem?_append_right (by rw[overlay_len];omega),overlay_len,List.getElem?_drop] at hy
    obtain⟨x,hx,hxy⟩:=renH_at hrb _ y hy
    exact .inl ⟨_,x,hx,hxy,hmu2 i (by omega),.inr ⟨by omega,rfl⟩⟩
  have hlb:∀b,(K.sub ids).liveB hs b→K.liveB h b:=by
   intro b hlb
   obtain⟨k,j,y,hj,hy,hly,hmj⟩:=liveB_sub hh hlb
   exact⟨j,y,hy,hly,hmj⟩
  have hlen':(overlay h ids hb++hb.drop ids.length).length=h.length+(hs'.length-ids.length):=by simp[overlay_len,hbl]
  have hwr:WR (K.merge Ks ids h.length) (overlay h ids hb++hb.drop ids.length) w':=by
   refine⟨fun i hi=>?_,fun i hi=>?_,fun i g hi=>?_,fun i ty cells hi=>?_,fun i ty sz len hi=>?_,fun i j x y g hi hj hlx hly hmi hmj=>?_,fun i ty cells g hi hm o=>?_,S.wr.agr,fun i ty sz p hi=>?_⟩
   ·rw[hmu2 i (by omega)];exact S.wr.fresh _ (by omega)
   ·by_cases hil:i<h.length
    ·rw[hmu1 i hil];exact H.has i hil
    ·rw[hmu2 i (by omega)];exact S.wr.has _ (by omega)
   ·by_cases hil:i<h.length
    ·rw[hmu1 i hil] at hi;have:=H.lt i g hi;have:=S.frm.size;omega
    ·rw[hmu2 i (by omega)] at hi;exact S.wr.lt _ g hi
   ·rcases hcase i _ hi with⟨k,x,hx,hxy,hmk,_⟩|⟨hil,hni,hx⟩
    ·cases x with
     |box ty' c=>
      rw[renO] at hxy
      obtain⟨l',hl',e⟩:=map_some' hxy
      cases e
      obtain⟨g,cs,hm,hw,hs1,hv⟩:=S.wr.box k ty c hx
      exact⟨g,cs,by rw[hmk];exact hm,hw,hs1,renL_sound R (by rw[renL_len hl'];exact hv) hl'⟩
     |tok=>rw[renO] at hxy;cases hxy
     |dead=>rw[renO] at hxy;cases hxy
     |arr=>rw[renO] at hxy;cases hxy
    ·obtain⟨g,cs,hm,hw,hs1,hv⟩:=H.box i ty cells hx
     refine⟨g,cs,hX.mu i g hm,?_,?_,hv.mono hX⟩
     ·rw[S.frm.block g (H.lt i g hm) (hfar i _ g hx rfl hm hni)];exact hw
     ·rw[hX.Z i g hm,hX.E i g hm];exact hs1
   ·rcases hcase i _ hi with⟨k,x,hx,hxy,hmk,_⟩|⟨hil,hni,hx⟩
    ·cases x with
     |box ty' c=>rw[renO] at hxy;obtain⟨l',hl',e⟩:=map_some' hxy;cases e
     |tok ty' sz' len'=>
      rw[renO] at hxy
      cases hxy
      obtain⟨g,cs,hm,rest⟩:=S.wr.tok k ty sz len hx
      exact⟨g,cs,by rw[hmk];exact hm,rest⟩
     |dead=>rw[renO] at hxy;cases hxy
     |arr=>rw[renO] at hxy;cases hxy
    ·obtain⟨g,cs,hm,hw,h3,h4,h5,h6⟩:=H.tok i ty sz len hx
     have hgl:=H.lt i g hm
     have hnl:=hfar i _ g hx rfl hm hni
     refine⟨g,cs,hX.mu i g hm,?_,?_,?_,?_,fun o ho=>?_⟩
     ·rw[S.frm.block g hgl hnl];exact hw
     ·rw[hX.Z i g hm];exact h3
     ·rw[hX.E i g hm];exact h4
     ·rw[hX.Z i g hm];exact h5
     ·show Ks.M g o=none
      rw[S.ms g o hgl hnl];rw[hX.R] at ho;exact h6 o ho
   ·rcases hcase i _ hi with⟨k,x',hx,hxy,hmk,hk⟩|⟨hil,hni,hx⟩
    ·rcases hcase j _ hj with⟨l,y',hy,hyy,hml,hl⟩|⟨hjl,hnj,hy⟩
     ·rw[hmk] at hmi
      rw[hml] at hmj
      have:=S.wr.inj k l x' y' g hx hy (by rw[←renO_live hxy];exact hlx) (by rw[←renO_live hyy];exact hly) hmi hmj
      subst this
      rcases hk with⟨h1,h2⟩|⟨h1,h2⟩
      ·rcases hl with⟨h3,h4⟩|⟨h3,h4⟩
       ·rw[h2] at h4;exact Option.some.inj h4
       ·rw[List.getElem?_eq_none (by omega)] at h2;cases h2
      ·rcases hl with⟨h3,h4⟩|⟨h3,h4⟩
       ·rw[List.getElem?_eq_none (by omega)] at h4;cases h4
       ·omega
     ·exfalso
      rw[hmu1 j hjl] at hmj
      rw[hmk] at hmi
      exact hfar j y g hy hly hmj hnj (S.live g ⟨k,x',hx,by rw[←renO_live hxy];exact hlx,hmi⟩ (H.lt j g hmj))
    ·rw[hmu1 i hil] at hmi
     rcases hcase j _ hj with⟨l,y',hy,hyy,hml,hl⟩|⟨hjl,hnj,hy⟩
     ·exfalso
      rw[hml] at hmj
      exact hfar i x g hx hlx hmi hni (S.live g ⟨l,y',hy,by rw[←renO_live hyy];exact hly,hmj⟩ (H.lt i g hmi))
     ·rw[hmu1 j hjl] at hmj
      exact H.inj i j x y g hx hy hlx hly hmi hmj
   ·rcases hcase i _ hi with⟨k,x,hx,hxy,hmk,_⟩|⟨hil,hni,hx⟩
    ·rw[hmk] at hm
     cases x with
     |box ty' c=>exact S.wr.apart k ty' c g hx hm o
     |tok=>rw[renO] at hxy;cases hxy
     |dead=>rw[renO] at hxy;cases hxy
     |arr=>rw[renO] at hxy;cases hxy
    ·rw[hmu1 i hil] at hm
     show Ks.M g o=none
     rw[S.ms g o (H.lt i g hm) (hfar i _ g hx rfl hm hni)]
     exact H.apart i ty cells g hx hm o
   ·rcases hcase i _ hi with⟨k,x,hx,hxy,hmk,hk⟩|⟨hil,hni,hx⟩
    ·cases x with
     |box ty' c=>rw[renO] at hxy;obtain⟨l',hl',e⟩:=map_some' hxy;cases e
     |tok=>rw[renO] at hxy;cases hxy
     |dead=>rw[renO] at hxy;cases hxy
     |arr ty' sz' p'=>
      rw[renO] at hxy
      cases hxy
      obtain⟨g,cs,hm,hw,hs1,ha⟩:=S.wr.arr k ty sz p hx
      refine⟨g,cs,by rw[hmk];exact hm,hw,hs1,ha.go ha.none rfl ?_ rfl rfl (fun _ _ _ h=>h)⟩
      rcases hk with⟨h1,h2⟩|⟨h1,h2⟩
      ·rw[hN1 i h1];exact(holdN k i h2).symm
      ·rw[hN2 i h1,h2]
    ·obtain⟨g,cs,hm,hw,hs1,ha⟩:=H.arr i ty sz p hx
     have hgl:=H.lt i g hm
     have hnl:=hfar i _ g hx rfl hm hni
     refine⟨g,cs,hX.mu i g hm,?_,?_,ha.go (fun o=>?_) ?_ (hN1 i hil) (hX.Z i g hm) (hX.E i g hm) (fun _ _ _ h=>h.ext hX)⟩
     ·rw[S.frm.block g hgl hnl];exact hw
     ·rw[hX.Z i g hm,hX.E i g hm];exact hs1
     ·show Ks.M g o=none
      rw[S.ms g o hgl hnl];exact ha.none o
     ·rw[hX.R]
  refine⟨⟨hwr,hX,S.frm.mono (fun b _ hb=>hlb b hb),S.zs,fun g o hg hnl=>S.ms g o hg (fun h=>hnl (hlb g h)),fun k b hk=>?_,fun b hb hlt=>?_,by rw[hlen'];omega⟩,R,S.frm.mono (fun b _ hb=>?_)⟩
  ·by_cases hkl:k<h.length
   ·rw[hmu1 k hkl] at hk;exact .inl hk
   ·rw[hmu2 k (by omega)] at hk
    rcases S.mu _ b hk with h1|h1|h1
    ·obtain⟨i,hi,_⟩:=sub_mu h1
     rw[List.getElem?_eq_none (by omega)] at hi;cases hi
    ·exact .inr (.inl h1)
    ·exact .inr (.inr (hlb b h1))
  ·obtain⟨i,y,hi,hl,hmi⟩:=hb
   rcases hcase i _ hi with⟨k,x,hx,hxy,hmk,_⟩|⟨hil,hni,hx⟩
   ·rw[hmk] at hmi
    exact hlb b (S.live b ⟨k,x,hx,by rw[←renO_live hxy];exact hl,hmi⟩ hlt)
   ·rw[hmu1 i hil] at hmi
    exact⟨i,y,hx,hl,hmi⟩
  ·obtain⟨k,j,y,hj,hy,hly,hmj⟩:=liveB_sub hh hb
   exact⟨j,y,List.mem_of_getElem? hj,hy,hly,hmj⟩
 ·cases hm
def mutT:TypeId→Bool:=fun _=>true
def qmIA(P:Program)(ρ:Operand→Option AV)(t:TypeId)(x i:Operand):Option (AV×Option Nat):=match ρ x with
 |some (.sl o lo len sz)=>match ρ i,P.underlying t with
  |some v,some (.slice e)=>match intV v with
   |some n=>if 0≤n∧n.toNat<len∧szA P e=some sz then some (.ptr o (lo*sz+n.toNat*sz),none) else none
   |none=>none
  |_,_=>none
 |_=>none
def qmLen(P:Program)(ρ:Operand→Option AV)(args:Array Operand)(ts:Array TypeId):Option (AV×Option Nat):=match args.toList,ts.toList with
 |[x],[t]=>match ρ x,P.underlying t with
  |some (.sl _ _ len _),some (.slice _)=>some (.pv (.lit (.int .i64 len)),none)
  |_,_=>none
 |_,_=>none
def isEq:BinOp→Option Bool
 |.eql=>some false
 |.neq=>some true
 |_=>none
def qmBin(P:Program)(ρ:Operand→Option AV)(b:BinOp)(t:TypeId)(x y:Operand):Option (AV×Option Nat):=match ρ x,ρ y with
 |some (.sl _ _ _ _),some (.pv (.lit (.slice none 0 0)))=>match isEq b,P.underlying t with
  |some r,some (.slice _)=>some (.pv (.lit (.bool r)),none)
  |_,_=>none
 |some (.ifc _ _),some (.pv (.lit .nilIface))=>match isEq b,P.underlying t with
  |some r,some (.interface _)=>some (.pv (.lit (.bool r)),none)
  |_,_=>none
 |_,_=>none
def zeroV(P:Program)(t:TypeId):Option AV:=match P.info? t with
 |some i=>match i.zero with
  |some (.agg cs)=>if cs.toList.all plainV then some (.agg (cs.toList.map fun v=>.pv (.lit v))) else none
  |some v=>ofVal v
  |none=>none
 |none=>none
def qmIfc(P:Program)(ρ:Operand→Option AV)(t:TypeId)(x:Operand):Option (AV×Option Nat):=match ρ x,P.underlying t with
 |some _,some (.interface _)=>none
 |some v,some _=>some (.ifc t v,none)
 |_,_=>none
def qmAssert(P:Program)(ρ:Operand→Option AV)(x:Operand)(t:TypeId)(ok:Bool):Option (AV×Option Nat):=match P.underlying t with
 |some (.interface _)=>none
 |some _=>match ρ x with
  |some (.ifc t' v)=>if t'=t then some (if ok then .tup [v,.pv (.lit (.bool true))] else v,none) else if ok then match zeroV P t with
    |some z=>some (.tup [z,.pv (.lit (.bool false))],none)
    |none=>none
   else none
  |_=>none
 |none=>none
def qopM(P:Program)(op:Op)(ρ:Operand→Option AV)(h:List AObj):Option (AV×Option Nat):=match op with
 |.indexAddr t x i=>qmIA P ρ t x i
 |.binOp b t x y _=>qmBin P ρ b t x y
 |.makeInterface t x=>qmIfc P ρ t x
 |.typeAssert x _ t ok=>qmAssert P ρ x t ok
 |.call ⟨.builtin .len,args,ts⟩=>qmLen P ρ args ts
 |_=>none
section
variable{P:Program}{o:Oper}{ρ:Operand→Value}{ρA:Operand→Option AV}{K:Kn}{h:List AObj}{w:World}
theorem qmIA_sound(hρ:∀x v,ρA x=some v→VR K v (ρ x)){t:TypeId}{x i:Operand}(ho:o.op=.indexAddr t x i){v:AV}{dep:Option Nat}(hq:qmIA P ρA t x i=some (v,dep)):Yld P o ρ K w v dep:=by
 unfold qmIA at hq
 split at hq
 ·rename_i ob lo len sz hx
  split at hq
  ·rename_i iv e hi hu
   split at hq
   ·rename_i n hn
    split at hq
    ·rename_i hc
     cases hq
     obtain⟨k,hk⟩:=intV_sound (hρ i _ hi) hn
     have hxv:=hρ x _ hx
     generalize hxe:ρ x=xv at hxv
     cases hxv with
     |sl _ _ _ _ g cap off hm he hl hz hof=>
      have hof:=hof (by omega)
      subst hof
      have hlt:n<(len:Int):=by omega
      refine .of (.pointer (some ⟨g,lo*sz+n.toNat*sz,none⟩)) (.ptr ob _ g hm) (fun w'=>?_)
      simp[execOp,ho,hxe,hk,Instr.indexAt,asIntOf,run_underlying hu,hc.1,hlt,szA_run hc.2.2,Addr.add_lit]
    ·cases hq
   ·cases hq
  ·cases hq
 ·cases hq
theorem qmLen_sound(hρ:∀x v,ρA x=some v→VR K v (ρ x)){args:Array Operand}{ts:Array TypeId}(ho:o.op=.call ⟨.builtin .len,args,ts⟩){v:AV}{dep:Option Nat}(hq:qmLen P ρA args ts=some (v,dep)):Yld P o ρ K w v dep:=by
 unfold qmLen at hq
 split at hq
 ·rename_i x t ha hts
  have e1:args = #[x]:=by rw[←Array.toArray_toList (xs:=args),ha]
  have e2:ts = #[t]:=by rw[←Array.toArray_toList (xs:=ts),hts]
  subst e1
  subst e2
  split at hq
  ·rename_i ob lo len sz e hx hu
   cases hq
   have hxv:=hρ x _ hx
   generalize hxe:ρ x=xv at hxv
   cases hxv with
   |sl _ _ _ _ g cap off hm he hlc hz hof=>
    refine .of (.int .i64 len) (.pv (.lit _ rfl)) (fun w'=>?_)
    simp[execOp,ho,resolve,invoke,builtin,hxe,Builtin.len_,run_underlying hu,goInt]
  ·cases hq
 ·cases hq
def NotNil(P:Program)(t:TypeId)(p q:Value):Prop:=(∀w':World,(Op.equal t p q).run P w'=.ok false w')∧(∀b x y (w':World),(eqGuard b t x y p q).run P w'=.ok () w')∧(binOp .eql t p q=do pure (.bool (←Op.equal t p q)))∧(binOp .neq t p q=do pure (.bool (!(←Op.equal t p q))))
theorem equalIn_slice{t e:TypeId}(hu:P.underlying t=some (.slice e))(a:Addr)(n c d:Nat)(w':World):(Op.equalIn (d+1) t (.slice (some a) n c) (.slice none 0 0)).run P w'=.ok false w':=by simp[Op.equalIn,run_underlying hu]
theorem notNil_slice{t e:TypeId}(hu:P.underlying t=some (.slice e))(a:Addr)(n c:Nat):NotNil P t (.slice (some a) n c) (.slice none 0 0):=
 ⟨fun w'=>equalIn_slice hu a n c 9999 w',fun b x y w'=>by cases b<;>simp[eqGuard],rfl,rfl⟩
theorem equalIn_iface{t:TypeId}{m:Array (String×TypeId)}(hu:P.underlying t=some (.interface m))(a:TypeId)(u:Value)(d:Nat)(w':World):(Op.equalIn (d+1) t (.iface a u) .nilIface).run P w'=.ok false w':=by simp[Op.equalIn,run_underlying hu]
theorem notNil_iface{t:TypeId}{m:Array (String×TypeId)}(hu:P.underlying t=some (.interface m))(a:TypeId)(u:Value):NotNil P t (.iface a u) .nilIface:=
 ⟨fun w'=>equalIn_iface hu a u 9999 w',fun b x y w'=>by cases b<;>simp[eqGuard],rfl,rfl⟩
theorem NotNil.run{t:TypeId}{p q:Value}(hn:NotNil P t p q){b:BinOp}{r:Bool}(hb:isEq b=some r)(x y:Operand)(w':World):(do eqGuard b t x y p q;binOp b t p q:Sem Value).run P w'=.ok (.bool r) w':=by
 obtain⟨h1,h2,h3,h4⟩:=hn
 unfold isEq at hb
 split at hb
 ·cases hb
  rw[h3]
  simp only[Sem.run_bind,h2,Result.andThen_ok,h1,Sem.run_pure]
 ·cases hb
  rw[h4]
  simp only[Sem.run_bind,h2,Result.andThen_ok,h1,Sem.run_pure,Bool.not_false]
 ·cases hb
theorem qmBin_sound(hρ:∀x v,ρA x=some v→VR K v (ρ x)){b:BinOp}{t:TypeId}{x y:Operand}{c:TypeId}(ho:o.op=.binOp b t x y c){v:AV}{dep:Option Nat}(hq:qmBin P ρA b t x y=some (v,dep)):Yld P o ρ K w v dep:=by
 unfold qmBin at hq
 split at hq
 ·rename_i i lo len sz hx hy
  split at hq
  ·rename_i r kt hb hu
   cases hq
   have hxv:=hρ x _ hx
   have hyv:ρ y=.slice none 0 0:=val_eq (hρ y _ hy) rfl
   generalize hxe:ρ x=xv at hxv
   cases hxv with
   |sl _ _ _ _ g cap off hm he hlc hz hof=>
    refine .of (.bool r) (.pv (.lit _ rfl)) (fun w'=>?_)
    simp only[execOp,ho]
    rw[Sem.run_bind,hxe,hyv,(notNil_slice hu _ _ _).run hb x y w']
    rfl
  ·cases hq
 ·rename_i i v0 hx hy
  split at hq
  ·rename_i r ms hb hu
   cases hq
   have hxv:=hρ x _ hx
   have hyv:ρ y=.nilIface:=val_eq (hρ y _ hy) rfl
   generalize hxe:ρ x=xv at hxv
   cases hxv with
   |ifc _ hz=>
    refine .of (.bool r) (.pv (.lit _ rfl)) (fun w'=>?_)
    simp only[execOp,ho]
    rw[Sem.run_bind,hxe,hyv,(notNil_iface hu _ _).run hb x y w']
    rfl
  ·cases hq
 ·cases hq
theorem zeroV_sound{t:TypeId}{z:AV}(h:zeroV P t=some z):∃u,VR K z u∧∀w':World,(zeroValue t).run P w'=.ok u w':=by
 unfold zeroV at h
 split at h
 ·rename_i i hi
  split at h
  ·rename_i cs hz
   split at h
   ·rename_i hp
    cases h
    refine⟨.agg cs,?_,fun w'=>by simp[zeroValue,typeInfo,hi,hz]⟩
    have:=VR.agg (K:=K) (cs.toList.map fun v=>.pv (.lit v)) cs.toList (by simp) (fun k hk hk'=>by
     simp only[List.getElem_map]
     rw[List.all_eq_true] at hp
     exact .pv (.lit _ (hp _ (List.getElem_mem _))))
    simpa using this
   ·cases h
  ·rename_i v _ hz
   exact⟨v,ofVal_sound h,fun w'=>by simp[zeroValue,typeInfo,hi,hz]⟩
  ·cases h
 ·cases h
theorem qmIfc_sound(hρ:∀x v,ρA x=some v→VR K v (ρ x)){t:TypeId}{x:Operand}(ho:o.op=.makeInterface t x){v:AV}{dep:Option Nat}(hq:qmIfc P ρA t x=some (v,dep)):Yld P o ρ K w v dep:=by
 unfold qmIfc at hq
 split at hq
 ·cases hq
 ·rename_i v0 d hni hx hu
  cases hq
  refine .of (.iface t (ρ x)) (.ifc t (hρ x _ hx)) (fun w'=>?_)
  have hr:(Instr.makeInterface t (ρ x)).run P w'=.ok (.iface t (ρ x)) w':=by
   unfold Instr.makeInterface
   rw[Sem.run_bind,run_underlying hu]
   simp only[Result.andThen_ok]
   rfl
  simp only[execOp,ho,Sem.run_bind,hr,Result.andThen_ok,Sem.run_pure]
 ·cases hq
theorem qmAssert_sound(hρ:∀x v,ρA x=some v→VR K v (ρ x)){t xt:TypeId}{x:Operand}{ok:Bool}(ho:o.op=.typeAssert x xt t ok){v:AV}{dep:Option Nat}(hq:qmAssert P ρA x t ok=some (v,dep)):Yld P o ρ K w v dep:=by
 unfold qmAssert at hq
 split at hq
 ·cases hq
 ·rename_i d hni hu
  split at hq
  ·rename_i t' v0 hx
   have hxv:=hρ x _ hx
   generalize hxe:ρ x=xv at hxv
   cases hxv with
   |ifc _ hz=>
    rename_i uz
    have hcase : ∀ w' : World, (Instr.typeAssert (.iface t' uz) xt t ok).run P w' = (if t' = t then (pure (if ok then .tuple #[uz, .bool true] else uz) : Sem Value) else (if ok then (do pure (.tuple #[← zeroValue t, .bool false])) else runtimePanic (.typeAssertion (some xt) (some t') t ""))).run P w' := by
     intro w'
     unfold Instr.typeAssert
     rw[Sem.run_bind,run_underlying hu]
     simp only[Result.andThen_ok]
    split at hq
    ·rename_i e
     cases hq
     refine .of (if ok then .tuple #[uz,.bool true] else uz) ?_ (fun w'=>?_)
     ·cases ok
      ·exact hz
      ·exact .tup [v0,.pv (.lit (.bool true))] [uz,.bool true] rfl (fun n hn hn'=>by
        match n,hn with
        |0,_=>exact hz
        |1,_=>exact .pv (.lit _ rfl))
     ·simp only[execOp,ho,hxe,Sem.run_bind,hcase w',if_pos e,Sem.run_pure,Result.andThen_ok]
    ·rename_i e
     split at hq
     ·rename_i hok
      split at hq
      ·rename_i z hz'
       cases hq
       obtain⟨u,hu1,hu2⟩:=zeroV_sound (K:=K) hz'
       refine .of (.tuple #[u,.bool false]) (.tup [z,.pv (.lit (.bool false))] [u,.bool false] rfl (fun n hn hn'=>by
        match n,hn with
        |0,_=>exact hu1
        |1,_=>exact .pv (.lit _ rfl))) (fun w'=>?_)
       rw[hok] at hcase ho
       simp only[execOp,ho,hxe,Sem.run_bind,hcase w',if_neg e,if_true,hu2 w',Sem.run_pure,Result.andThen_ok]
      ·cases hq
     ·cases hq
  ·cases hq
 ·cases hq
theorem qopM_sound(H:WR K h w)(hρ:∀x v,ρA x=some v→VR K v (ρ x)){v:AV}{dep:Option Nat}(hq:qopM P o.op ρA h=some (v,dep)):Yld P o ρ K w v dep:=by
 unfold qopM at hq
 split at hq
 ·rename_i ho;exact qmIA_sound hρ ho hq
 ·rename_i ho;exact qmBin_sound hρ ho hq
 ·rename_i ho;exact qmIfc_sound hρ ho hq
 ·rename_i ho;exact qmAssert_sound hρ ho hq
 ·rename_i ho;exact qmLen_sound hρ ho hq
 ·cases hq
end
def emMake(P:Program)(ρ:Operand→Option AV)(h:List AObj)(t:TypeId)(l c:Operand):Option (AV×List AObj×List Nat):=match ρ l,ρ c,P.underlying t with
 |some lv,some cv,some (.slice e)=>match intV lv,intV cv,zeroA P e,szA P e,bytesA P e with
  |some n,some m,some zc,some sz,some by_=>if n=m∧0≤n∧0<sz∧zc.length=sz∧n≤1000000∧(by_:Int)*n≤281474976710656 then
    some (.sl h.length 0 n.toNat sz,h++[.box e (zerosA zc (n.toNat*sz))],[]) else none
  |_,_,_,_,_=>none
 |_,_,_=>none
def srcA(h:List AObj)(sz:Nat):AV→Option (Nat×List AV)
 |.sl o lo len s=>match boxAt h o with
  |some c=>if s=sz∧(lo+len)*sz≤c.length then some (len,(c.drop (lo*sz)).take (len*sz)) else none
  |none=>none
 |.pv (.lit (.slice none 0 0))=>some (0,[])
 |x=>match rowsOf x with
  |some es=>if es.all (fun c=>c.length==sz) then some (es.length,(List.range (es.length*sz)).map fun k=>.pv ((es.getD (k/sz) []).getD (k%sz) .any)) else none
  |none=>none
def emApp(P:Program)(h:List AObj)(t:TypeId)(s x:AV):Option (AV×List AObj×List Nat):=match P.underlying t with
 |some (.slice e)=>match szA P e,bytesA P e,zeroA P e with
  |some sz,some by_,some zc=>if 0<sz∧zc.length=sz then match srcA h sz x with
    |some (0,_)=>match s with
     |.sl _ _ _ _=>some (s,h,[])
     |s=>if isNilSlice s then some (s,h,[]) else none
    |some (n+1,new)=>if new.all AV.isCell then match s with
      |.sl o 0 len sz'=>match h[o]? with
       |some (.box ty cells)=>if ty=e∧sz'=sz∧len*sz≤cells.length∧len+(n+1)≤1000000000000∧(len+(n+1))*by_≤140737488355328 then
         some (.sl h.length 0 (len+(n+1)) sz,h.set o .dead++[.box e (cells.take (len*sz)++new)],[o]) else none
       |_=>none
      |s=>if isNilSlice s∧mutT t=true∧n+1≤1000000000000∧(n+1)*by_≤140737488355328 then some (.sl h.length 0 (n+1) sz,h++[.box e new],[]) else none
     else none
    |none=>none
   else none
  |_,_,_=>none
 |_=>none
def bslM(P:Program)(t:TypeId)(len:Nat)(ps:List (Nat×AV)):Option (TypeId×Nat×List AV):=match P.underlying t with
 |some (.slice e)=>match zeroA P e,szA P e with
  |some zc,some s=>if 0<s∧zc.length=s∧len*s≤16777216 then match fillA (fun i=>some (i*s,s)) (zerosA zc (len*s)) ps with
    |some out=>some (e,s,out)
    |none=>none
   else none
  |_,_=>none
 |_=>none
def emBsl(P:Program)(ρ:Operand→Option AV)(h:List AObj)(t:TypeId)(len:Nat)(parts:Array (Nat×Operand)):Option (AV×List AObj×List Nat):=match partsA ρ parts.toList with
 |some ps=>match bslM P t len ps with
  |some (e,s,out)=>some (.sl h.length 0 len s,h++[.box e out],[])
  |none=>none
 |none=>none
def eopM(P:Program)(op:Op)(ρ:Operand→Option AV)(h:List AObj):Option (AV×List AObj×List Nat):=match op with
 |.makeSlice t l c=>emMake P ρ h t l c
 |.call ⟨.builtin .append,args,ts⟩=>match opsA ρ args.toList,ts.toList with
  |some [s,x],[t,t']=>if t=t' then emApp P h t s x else none
  |_,_=>none
 |_=>none
def eopB(P:Program)(op:Op)(ρ:Operand→Option AV)(h:List AObj):Option (AV×List AObj×List Nat):=match op with
 |.buildSlice t len parts=>emBsl P ρ h t len parts
 |_=>none
section
variable{P:Program}{o:Oper}{ρ:Operand→Value}{ρA:Operand→Option AV}{K:Kn}{h:List AObj}{w:World}
theorem emMake_sound(H:WR K h w)(hρ:∀x v,ρA x=some v→VR K v (ρ x)){t:TypeId}{l c:Operand}(ho:o.op=.makeSlice t l c){v:AV}{h':List AObj}{touch:List Nat}(hq:emMake P ρA h t l c=some (v,h',touch)):Eff P o ρ K h w v h' touch:=by
 unfold emMake at hq
 split at hq
 ·rename_i lv cv e hl hc hu
  split at hq
  ·rename_i n m zc sz by_ hn hm hz hs hb
   split at hq
   ·rename_i hcond
    cases hq
    obtain⟨rfl,h0,hsz,hzc,hle,hby⟩:=hcond
    obtain⟨k1,hk1⟩:=intV_sound (hρ l _ hl) hn
    obtain⟨k2,hk2⟩:=intV_sound (hρ c _ hc) hm
    obtain⟨i,z,hi,hiz,hvz⟩:=zeroA_sound (K:=K) hz
    have his:i.size=sz:=by unfold szA at hs;rw[hi] at hs;simpa using hs
    have hib:i.bytes=by_:=by unfold bytesA at hb;rw[hi] at hb;simpa using hb
    have hrun:=run_make (P:=P) w t e i z hu hi hiz k1 k2 n n h0 (Int.le_refl _) (by rw[hib];exact hby) (by omega)
    rw[his] at hrun
    have hms:(madeCells z.cells (n.toNat*sz)).size=n.toNat*sz:=size_madeCells _ _
    have hvl:=zerosA_sound hvz (by omega) (n.toNat*sz)
    refine⟨.value (.slice (some ⟨w.heap.size,0,none⟩) n.toNat n.toNat),_,w.alloc (.cells (madeCells z.cells (n.toNat*sz)) e),K.withBox h.length w.heap.size n.toNat sz,?_,.inl rfl,?_,?_,Frm.alloc _ _ _⟩
    ·simp only[execOp,ho,hk1,hk2,Sem.run_bind,hrun,Result.andThen_ok,Sem.run_pure]
    ·exact .sl _ 0 _ sz _ _ 0 (withBox_mu _ _ _ _ _) (withBox_E _ _ _ _ _) (Nat.le_refl _) (by rw[withBox_Z];omega) (fun _=>by omega)
    ·refine Step.fresh H _ n.toNat sz _ rfl ⟨rfl,rfl,rfl,by simp,fun k hk _=>Below.heap_alloc w _ k hk⟩ (fun hx=>⟨_,heap_alloc_new w _,?_,?_⟩)
     ·rw[withBox_Z,withBox_E];exact⟨hms,by unfold maxLen;omega⟩
     ·have hl1:(zerosA zc (n.toNat*sz)).length=n.toNat*sz:=by simp[zerosA]
      rw[hl1,List.take_of_length_le (by rw[Array.length_toList,hms];exact Nat.le_refl _)]
      exact hvl.mono hx
   ·cases hq
  ·cases hq
 ·cases hq
theorem boxAt_some{i:Nat}{c:List AV}(h1:boxAt h i=some c):∃ty,h[i]? = some (.box ty c):=by
 unfold boxAt at h1
 split at h1
 ·rename_i ty c' hi;cases h1;exact⟨ty,hi⟩
 ·cases h1
theorem srcA_sound(H:WR K h w){x:AV}{v:Value}(hv:VR K x v){sz n:Nat}{cells:List AV}(hp:0<sz)(hq:srcA h sz x=some (n,cells)) :
  ∃a cap,v=.slice a n cap∧(0<n→∃ad news,a=some ad∧VL K cells news∧news.length=n*sz∧∀j u,news[j]? = some u→w.cell? (ad.add j)=some u):=by
 unfold srcA at hq
 split at hq
 ·rename_i ob lo len s
  split at hq
  ·rename_i c hc
   split at hq
   ·rename_i hcond
    cases hq
    obtain⟨rfl,hle⟩:=hcond
    obtain⟨ty,hi⟩:=boxAt_some hc
    obtain⟨g,cs,hm,hw,hs,hvl⟩:=H.box ob ty c hi
    cases hv with
    |sl _ _ _ _ g' cap off hm' he hlc hz hof=>
     rw[hm] at hm'
     cases hm'
     refine⟨_,cap,rfl,fun hn=>?_⟩
     have hof:=hof (by omega)
     subst hof
     have hcl:c.length≤cs.size:=by have:=hvl.1;simp at this;omega
     have e1:(lo+n)*s=lo*s+n*s:=Nat.add_mul _ _ _
     refine⟨_,((cs.toList.take c.length).drop (lo*s)).take (n*s),rfl,(hvl.drop _).take _,?_,fun j u hj=>?_⟩
     ·simp;omega
     ·rw[List.getElem?_take] at hj
      split at hj
      ·rw[List.getElem?_drop,List.getElem?_take] at hj
       split at hj
       ·rw[add_mid]
        rw[Array.getElem?_toList] at hj
        simp[World.cell?,hw,hj]
       ·cases hj
      ·cases hj
   ·cases hq
  ·cases hq
 ·cases hq
  exact⟨none,0,val_eq hv rfl,fun hn=>by omega⟩
 ·split at hq
  ·rename_i es hes
   split at hq
   ·rename_i hall
    cases hq
    have hpr:=rowsOf_sound hv hes
    by_cases hne:es=[]
    ·subst hne
     cases hpr with
     |rows _ a cap g off sz us ha hn _ _ _=>exact⟨a,cap,rfl,fun hn=>by simp at hn⟩
    ·have hsize:∀i (hi:i<es.length),es[i].length=sz:=fun i hi=>by
      rw[List.all_eq_true] at hall
      simpa using hall _ (List.getElem_mem hi)
     obtain⟨g,off,cap,news,he,hnl,hnM,hnP⟩:=row_news hpr hne hsize hp
     refine⟨_,cap,he,fun _=>⟨_,news,rfl,⟨by simp[hnl],fun k hk hk'=>?_⟩,hnl,fun j u hj=>by rw[add_mid];exact H.agr _ _ _ (hnM j u hj)⟩⟩
     simp only[List.getElem_map,List.getElem_range]
     rw[hnl] at hk'
     have h1:k/sz<es.length:=Nat.div_lt_of_lt_mul (by rw[Nat.mul_comm];exact hk')
     have h2:k%sz<es[k/sz].length:=by rw[hsize _ h1];exact Nat.mod_lt _ hp
     obtain⟨u,hu1,hu2⟩:=hnP (k/sz) h1 (k%sz) h2
     have e2:k/sz*sz+k%sz=k:=by rw[Nat.mul_comm];exact Nat.div_add_mod k sz
     rw[e2,List.getElem?_eq_getElem (by rw[hnl];exact hk')] at hu1
     rw[Option.some.inj hu1]
     refine .pv ?_
     have e3:es.getD (k/sz) []=es[k/sz]:=by simp[List.getD,List.getElem?_eq_getElem h1]
     rw[e3]
     have e4:es[k/sz].getD (k%sz) .any=es[k/sz][k%sz]:=by simp[List.getD,List.getElem?_eq_getElem h2]
     rw[e4]
     exact hu2
   ·cases hq
  ·cases hq
theorem emApp_sound(H:WR K h w){args:Array Operand}{s x:Operand}(ha:args.toList=[s,x]){t:TypeId}{ts:Array TypeId}(hts:ts.toList=[t,t])(ho:o.op=.call ⟨.builtin .append,args,ts⟩)
  {sA xA:AV} (hs:VR K sA (ρ s)) (hx:VR K xA (ρ x)) {v:AV} {h':List AObj} {touch:List Nat} (hq:emApp P h t sA xA=some (v,h',touch)):Eff P o ρ K h w v h' touch:=by
 unfold emApp at hq
 split at hq
 ·rename_i e hu
  split at hq
  ·rename_i sz by_ zc hsz hby hz
   obtain⟨i,z,hi,hiz,hvz⟩:=zeroA_sound (K:=K) hz
   have his:i.size=sz:=by unfold szA at hsz;rw[hi] at hsz;simpa using hsz
   have hib:i.bytes=by_:=by unfold bytesA at hby;rw[hi] at hby;simpa using hby
   split at hq
   ·rename_i hc0
    have hzs:z.cells.size=sz:=by have:=hvz.1;simp at this;omega
    split at hq
    ·rename_i cells hsrc
     obtain⟨a,cap,hxe,_⟩:=srcA_sound H hx hc0.1 hsrc
     have hse:∃base n c,ρ s=.slice base n c∧n≤c∧v=sA∧h'=h∧touch=[]:=by
      split at hq
      ·rename_i ob lo len sz'
       cases hq
       generalize hsx:ρ s=sv at hs
       cases hs with
       |sl _ _ _ _ g cap off hm he hl hz' hof=>exact⟨_,_,_,rfl,hl,rfl,rfl,rfl⟩
      ·split at hq
       ·rename_i hn
        cases hq
        exact⟨none,0,0,isNil_sound hs hn,Nat.le_refl _,rfl,rfl,rfl⟩
       ·cases hq
     obtain⟨base,n,c,h1,h2,rfl,rfl,rfl⟩:=hse
     refine⟨_,ρ s,w,K,exec_append ha hts ho (v:=ρ s) ?_,.inl rfl,hs,Step.refl H,Frm.refl _ _⟩
     rw[h1,hxe]
     exact run_append_none t o.type e i hu hi base a n c cap h2 w
    ·rename_i n new hsrc
     split at hq
     ·rename_i hcell
      obtain⟨a,capx,hxe,hnews⟩:=srcA_sound H hx hc0.1 hsrc
      obtain⟨ad,news,rfl,hvn,hnl,hncell⟩:=hnews (by omega)
      have h1:∀u∈news,u.oneCell'=true:=all_cell hvn hcell
      have hnn:new.length=(n+1)*sz:=by rw[hvn.1];exact hnl
      split at hq
      ·rename_i ob len sz'
       split at hq
       ·rename_i ty cells hob
        split at hq
        ·rename_i hcond
         obtain⟨rfl,rfl,hlc,hmx,hbt⟩:=hcond
         cases hq
         obtain⟨g,cs,hm,hwg,⟨hcs,hZ⟩,hvl⟩:=H.box ob ty cells hob
         have hcl:cells.length≤cs.size:=by have:=hvl.1;simp at this;omega
         generalize hse:ρ s=sv at hs
         cases hs with
         |sl _ _ _ _ g' cap off hm' he hl hzz hof=>
          rw[hm] at hm'
          cases hm'
          rw[he] at hcs
          have hsetlen:(h.set ob .dead).length=h.length:=by simp
          have hlive:∀(j:Nat) x,(h.set ob .dead)[j]? = some x→x.live=true→h[j]? = some x∧j≠ob:=by
           intro j x hj hl
           rw[List.getElem?_set] at hj
           by_cases ej:ob=j
           ·rw[if_pos ej] at hj
            split at hj
            ·cases hj;cases hl
            ·cases hj
           ·rw[if_neg ej] at hj;exact⟨hj,fun e=>ej e.symm⟩
          have htake:(cs.toList.take (len*sz')).length=len*sz':=by simp;omega
          have hvo:VL K (cells.take (len*sz')) (cs.toList.take (len*sz')):=by
           have:=hvl.take (len*sz')
           rwa [List.take_take,Nat.min_eq_left hlc] at this
          have hvall:VL K (cells.take (len*sz')++new) (cs.toList.take (len*sz')++news):=hvo.append hvn
          have hlall:(cells.take (len*sz')++new).length=(cs.toList.take (len*sz')++news).length:=hvall.1
          by_cases hroom:len+(n+1)≤cap
          ·have hof:=hof (by omega)
           rw[Nat.zero_mul] at hof
           subst hof
           have hfit:len*sz'+news.length≤cs.size:=by rw[hnl,hcs,←Nat.add_mul];exact Nat.mul_le_mul_right _ (by omega)
           have hrun:=run_append_room (P:=P) w t o.type ty i hu hi g len cap cs hwg ad (n+1) capx news (by rw[his];exact hnl) hncell h1 hroom (by rw[his];exact hfit)
           rw[his] at hrun
           rw[←hse,←hxe] at hrun
           generalize hcur:(cs.toList.take (len*sz')++news++cs.toList.drop (len*sz'+news.length)).toArray=cur at hrun
           have hcurs:cur.size=K.Z g*sz':=by rw[←hcur,←hcs];simp;omega
           have hst:=Step.put H (h1:=h.set ob .dead) (w':=w.setRow g cur) (.box ty (cells.take (len*sz')++new)) g (K.Z g) (K.E g)
            ⟨cur,setRow_heap w g cs cur ty _ hwg,by rw[withBox_Z,withBox_E,he];exact⟨hcurs,hZ⟩,by
             rw[hlall,←hcur]
             show VL _ _ (List.take _ (cs.toList.take (len*sz')++news++cs.toList.drop (len*sz'+news.length)))
             rw[List.take_left]
             exact hvall.mono (Ext.withBox (H.fresh _ (Nat.le_refl _)) (fun _ _=>⟨rfl,rfl⟩))⟩
            (by have:=heap_lt hwg;simpa[World.setRow] using this) ⟨rfl,rfl,rfl,by simp[World.setRow],fun k _ hk=>setRow_other w g k _ hk⟩
            (fun o=>H.apart ob ty cells g hob hm o) hsetlen (fun j x hj hl=>by
             obtain⟨h2,h3⟩:=hlive j x hj hl
             exact⟨h2,fun e=>h3 (H.inj j ob x _ g h2 hob hl rfl e hm)⟩)
            (fun i _=>⟨rfl,rfl⟩) (.inr ⟨ob,_,hob,rfl,hm⟩)
           refine⟨_,_,_,_,exec_append ha hts ho hrun,.inl rfl,.sl _ 0 _ sz' g cap 0 (withBox_mu _ _ _ _ _) (by rw[withBox_E];exact he) hroom (by rw[withBox_Z];omega) (fun _=>by omega),hst,⟨rfl,rfl,rfl,by simp[World.setRow],fun k _ hk=>setRow_other w g k _ (fun e=>hk ⟨ob,_,by simp,hob,rfl,by rw[e];exact hm⟩)⟩⟩
          ·have holds:∀j v,(cs.toList.take (len*sz'))[j]? = some v→w.cell? ((⟨g,off,none⟩:Addr).add j)=some v:=by
            intro j v hj
            have hjl:j<len*sz':=by
             by_cases hh:j<len*sz'
             ·exact hh
             ·rw[List.getElem?_eq_none (by omega)] at hj;cases hj
            have hl0:0<len:=by
             rcases Nat.eq_zero_or_pos len with h0|h0
             ·rw[h0] at hjl;omega
             ·exact h0
            have hof:=hof (by omega)
            rw[Nat.zero_mul] at hof
            subst hof
            rw[add_mid,Nat.zero_add]
            rw[List.getElem?_take,if_pos hjl,Array.getElem?_toList] at hj
            simp[World.cell?,hwg,hj]
           have hrun:=run_append_grow (P:=P) w t o.type ty i z hu hi hiz ⟨g,off,none⟩ len cap (cs.toList.take (len*sz')) (by rw[his];exact htake) holds ad (n+1) capx news (by rw[his];exact hnl) hncell (by omega) (by omega) (growslice_fits (by omega) (by rw[hib];exact hbt))
           rw[←hse,←hxe] at hrun
           have hge:=grownCap_ge w (len+(n+1)) cap ty
           have hcm:=grownCap_le_maxLen w (len+(n+1)) cap ty (by unfold maxLen;omega)
           generalize grownCap w (len+(n+1)) cap ty=cap' at *
           generalize hcur:(cs.toList.take (len*sz')).toArray++news.toArray++Builtin.zeroCells z.cells (cap'-(len+(n+1)))=cur at hrun
           have hcurs:cur.size=cap'*sz':=by
            rw[←hcur]
            simp only[Array.size_append,List.size_toArray,size_zeroCells,hzs,hnl,htake,←Nat.add_mul]
            congr 1
            omega
           have hst:=Step.put H (h1:=h.set ob .dead) (w':=w.drew.alloc (.cells cur ty)) (.box ty (cells.take (len*sz')++new)) w.heap.size cap' sz'
            ⟨cur,heap_alloc_new w.drew _,by rw[withBox_Z,withBox_E];exact⟨hcurs,hcm⟩,by
             rw[hlall,←hcur]
             have e5:((cs.toList.take (len*sz')).toArray++news.toArray++Builtin.zeroCells z.cells (cap'-(len+(n+1)))).toList=(cs.toList.take (len*sz')++news)++(Builtin.zeroCells z.cells (cap'-(len+(n+1)))).toList:=by simp
             rw[e5,List.take_left]
             exact hvall.mono (Ext.withBox (H.fresh _ (Nat.le_refl _)) (fun i hi=>by have:=H.lt i _ hi;omega))⟩
            (by simp) (Frm.drewAlloc _ _ _)
            (fun o=>H.noM (Nat.le_refl _) o) hsetlen (fun j x hj hl=>by
             obtain⟨h2,h3⟩:=hlive j x hj hl
             exact⟨h2,fun e=>by have:=H.lt j _ e;omega⟩)
            (fun i hi=>by have:=H.lt i _ hi;omega) (.inl (Nat.le_refl _))
           refine⟨_,_,_,_,exec_append ha hts ho hrun,.inl rfl,.sl _ 0 _ sz' w.heap.size cap' 0 (withBox_mu _ _ _ _ _) (withBox_E _ _ _ _ _) hge (by rw[withBox_Z];omega) (fun _=>by omega),hst,Frm.drewAlloc _ _ _⟩
        ·cases hq
       ·cases hq
      ·split at hq
       ·rename_i hcond
        obtain⟨hnil,_,hmx,hbt⟩:=hcond
        cases hq
        have hse:=isNil_sound hs hnil
        have hrun:=run_append_nil (P:=P) w t o.type e i z hu hi hiz ad (n+1) capx news (by rw[his];exact hnl) hncell (by omega) (by omega) (by rw[hib];omega)
        rw[←hse,←hxe] at hrun
        have hge:=grownCap_ge w (n+1) 0 e
        have hcm:=grownCap_le_maxLen w (n+1) 0 e (by unfold maxLen;omega)
        generalize grownCap w (n+1) 0 e=cap at *
        generalize hcur:news.toArray++Builtin.zeroCells z.cells (cap-(n+1))=cur at hrun
        have hcurs:cur.size=cap*sz:=by
         rw[←hcur]
         simp only[Array.size_append,List.size_toArray,size_zeroCells,hzs,hnl,←Nat.add_mul]
         congr 1
         omega
        have hst:=Step.fresh H (w':=w.drew.alloc (.cells cur e)) (.box e new) cap sz (.cells cur e) rfl (Frm.drewAlloc _ _ _) (fun hx=>⟨cur,heap_alloc_new w.drew _,by
         rw[withBox_Z,withBox_E];exact⟨hcurs,hcm⟩,by
         rw[hvn.1,←hcur]
         have e5:(news.toArray++Builtin.zeroCells z.cells (cap-(n+1))).toList=news++(Builtin.zeroCells z.cells (cap-(n+1))).toList:=by simp
         rw[e5,List.take_left]
         exact hvn.mono hx⟩)
        exact⟨_,_,_,_,exec_append ha hts ho hrun,.inl rfl,.sl _ 0 _ sz w.heap.size cap 0 (withBox_mu _ _ _ _ _) (withBox_E _ _ _ _ _) hge (by rw[withBox_Z];omega) (fun _=>by omega),hst,Frm.drewAlloc _ _ _⟩
       ·cases hq
     ·cases hq
    ·cases hq
   ·cases hq
  ·cases hq
 ·cases hq
theorem emBsl_sound(H:WR K h w)(hρ:∀x v,ρA x=some v→VR K v (ρ x)){t:TypeId}{len:Nat}{parts:Array (Nat×Operand)}(ho:o.op=.buildSlice t len parts){v:AV}{h':List AObj}{touch:List Nat}(hq:emBsl P ρA h t len parts=some (v,h',touch)):Eff P o ρ K h w v h' touch:=by
 unfold emBsl at hq
 split at hq
 ·rename_i ps hps
  split at hq
  ·rename_i e s out hb
   cases hq
   unfold bslM at hb
   split at hb
   ·rename_i e' hu
    split at hb
    ·rename_i zc s' hz hs
     split at hb
     ·rename_i hc
      split at hb
      ·rename_i out' hf
       cases hb
       obtain⟨ie,z,hi,hiz,hvz⟩:=zeroA_sound (K:=K) hz
       obtain⟨h1,h2⟩:=partsA_sound hρ _ _ hps
       have hies:ie.size=s:=by unfold szA at hs;rw[hi] at hs;simpa using hs
       obtain⟨us,hfill,hvu⟩:=fillA_sound _ ps (evParts ρ parts.toList) _ ((Array.range (len*s)).map (z.cells[· % z.cells.size]!)) out (zerosA_sound hvz (by omega) _) h1 h2 hf
       have hout:∀(ps:List (Nat×AV)) (cells out:List AV),fillA (fun i=>some (i*s,s)) cells ps=some out→out.length=cells.length:=by
        intro ps
        induction ps with
        |nil=>intro cells out hf;cases hf;rfl
        |cons q ps ih=>
         intro cells out hf
         obtain⟨qi,qv⟩:=q
         simp only[fillA] at hf
         split at hf
         ·cases hf
         ·rename_i hcond
          rw[ih _ _ hf]
          simp[setAt]
          omega
       have hol:=hout _ _ _ hf
       have hzl:(zerosA zc (len*s)).length=len*s:=by simp[zerosA]
       have husz:us.size=len*s:=by have:=hvu.1;simp at this;omega
       have hlen:len≤16777216:=Nat.le_trans (Nat.le_mul_of_pos_right len hc.1) hc.2.2
       have hrun:(execOp ρ o).run P w=.ok (.value (.slice (some ⟨w.heap.size,0,none⟩) len len)) (w.alloc (.cells us e)):=by
        have hp':(parts.map fun(i,x)=>(i,ρ x)).toList=evParts ρ parts.toList:=by simp[evParts]
        by_cases h0:len*s=0
        ·have hl0:len=0:=by
          rcases Nat.mul_eq_zero.1 h0 with h0|h0
          ·exact h0
          ·omega
         subst hl0
         have e0:∀f:Nat→Value,(Array.range (0*s)).map f = #[]:=fun f=>by apply Array.ext';simp
         rw[e0] at hfill
         simp only[execOp,ho,Instr.buildSlice,Sem.run_bind,run_underlying hu,Result.andThen_ok,szA_run hs]
         rw[if_neg (by simp),if_pos (by simp)]
         simp only[Sem.run_bind,Sem.run_pure,Result.andThen_ok,e0,hp',hfill]
         simp[newRow]
        ·have:=run_buildSlice (P:=P) w t e len (parts.map fun(i,x)=>(i,ρ x)) us ie z hu hi hiz (by rw[hies];have:=hc.2.2;omega) (by rw[hies];exact h0) (by rw[hies,hp'];exact hfill)
         simp only[execOp,ho,Sem.run_bind,this,Result.andThen_ok,Sem.run_pure]
       have hst:=Step.fresh H (w':=w.alloc (.cells us e)) (.box e out) len s (.cells us e) rfl (Frm.alloc _ _ _) (fun hx=>⟨us,heap_alloc_new w _,by
        rw[withBox_Z,withBox_E];exact⟨husz,by unfold maxLen;omega⟩,by
        rw[hvu.1,List.take_length];exact hvu.mono hx⟩)
       exact⟨_,_,_,_,hrun,.inl rfl,.sl _ 0 _ s w.heap.size len 0 (withBox_mu _ _ _ _ _) (withBox_E _ _ _ _ _) (Nat.le_refl _) (by rw[withBox_Z];omega) (fun _=>by omega),hst,Frm.alloc _ _ _⟩
      ·cases hb
     ·cases hb
    ·cases hb
   ·cases hb
  ·cases hq
 ·cases hq
theorem opsA_two(hρ:∀x v,ρA x=some v→VR K v (ρ x)){args:Array Operand}{a b:AV}(hq:opsA ρA args.toList=some [a,b]):∃x y,args.toList=[x,y]∧VR K a (ρ x)∧VR K b (ρ y):=by
 match hl:args.toList,hq with
 |[],hq=>simp[opsA] at hq
 |[x],hq=>
  simp only[opsA] at hq
  split at hq
  ·rename_i v r hv hr
   cases hr
   cases hq
  ·cases hq
 |[x,y],hq=>
  simp only[opsA] at hq
  split at hq
  ·rename_i v r hv hr
   cases hq
   split at hr
   ·rename_i v2 r2 hv2 hr2
    cases hr2
    cases hr
    exact⟨x,y,rfl,hρ x _ hv,hρ y _ hv2⟩
   ·cases hr
  ·cases hq
 |x::y::z::l,hq=>
  simp only[opsA] at hq
  split at hq
  ·rename_i v r hv hr
   cases hq
   split at hr
   ·rename_i v2 r2 hv2 hr2
    cases hr
    split at hr2
    ·cases hr2
    ·cases hr2
   ·cases hr
  ·cases hq
theorem eopM_sound(H:WR K h w)(hρ:∀x v,ρA x=some v→VR K v (ρ x)){v:AV}{h':List AObj}{touch:List Nat}(hq:eopM P o.op ρA h=some (v,h',touch)):Eff P o ρ K h w v h' touch:=by
 unfold eopM at hq
 split at hq
 ·rename_i ho;exact emMake_sound H hρ ho hq
 ·rename_i args ts ho
  split at hq
  ·rename_i s x t t' hop hts
   split at hq
   ·rename_i e
    subst e
    obtain⟨so,xo,ha,hs,hx⟩:=opsA_two hρ hop
    exact emApp_sound H ha hts ho hs hx hq
   ·cases hq
  ·cases hq
 ·cases hq
theorem eopB_sound(H:WR K h w)(hρ:∀x v,ρA x=some v→VR K v (ρ x)){v:AV}{h':List AObj}{touch:List Nat}(hq:eopB P o.op ρA h=some (v,h',touch)):Eff P o ρ K h w v h' touch:=by
 unfold eopB at hq
 split at hq
 ·rename_i ho;exact emBsl_sound H hρ ho hq
 ·cases hq
end
end Go.Proofs.YtfphhabaeggenaaDoor
