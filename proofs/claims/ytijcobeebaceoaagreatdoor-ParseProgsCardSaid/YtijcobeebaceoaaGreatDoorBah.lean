/- Joined texts. -/
import Derived.Test.YtijcobeebaceoaaGreatDoorBag
set_option linter.all false
namespace Go.Proofs.YtijcobeebaceoaaGreatDoor
open Go.RowKit
abbrev ps(L:List Tk)(a:Nat)(d:Int)(l:List PV):List PV:=aW L::iv a::iv d::l
section
variable{L:List Tk}(hW:F3 L)
theorem VS{a:Nat}(h:a<L.length):L[a]? = some (ai L a):=by
 unfold ai;rw[List.getElem?_eq_getElem h];rfl
theorem d9{a:Nat}(h:a<L.length)(d:PV):ev (akI (aW L) (iv a) d)=some (0,aW L::iv a::d::(ai L a).cells):=ax.of (by
 rw[aqt];have h2:¬L.length≤a:=by omega
 simp[dV (VS h),Tk.cells])
include hW
theorem F3.w1{a:Nat}(h:a<L.length):IntKind.i64.wrap ((a:Int)+1)=((a+1:Nat):Int):=by
 have:=hW.len;rw[aJ (by omega)];omega
theorem ou{a:Nat}(h:a<L.length)(d:PV):ev (akE (aW L) (iv a) d)=some (0,aW L::iv (a+1:Nat)::d::(ai L a).cells):=ax.of (by
 rw[aqi];have hw:=hW.w1 h;simp[d9 h,Tk.cells,hw])
theorem Nw{a:Nat}(h:a<L.length)(x:ByteArray)(d:PV):ev (akA (sv x) (aW L) (iv a) d)=some (0,[aW L,iv a,d,bv (lF L x a)]):=ax.of (by
 rw[aqc];have ht:=hW.top a;unfold lF;simp[d9 h,Tk.cells];by_cases h7:(ai L a).kind=7
 ·by_cases hx:(ai L a).text=x<;>simp[h7,hx]
 ·by_cases h6:(ai L a).kind=6
  ·by_cases hx:(ai L a).text=x<;>simp[h6,hx]
  ·have:¬6≤(ai L a).kind:=by omega
   simp[h7,h6,this])
theorem dH{a:Nat}(h:a<L.length)(x:ByteArray)(d:PV):ev (akK (sv x) (aW L) (iv a) d)=some (0,[aW L,iv (if lF L x a then a+1 else a:Nat),d,bv (lF L x a)]):=ax.of (by
 rw[aqy];have hw:=hW.w1 h;cases hi:lF L x a<;>simp[Nw hW h,hi,hw])
theorem nO(e w:Int)(a d:PV):ev (akD (iv e) (iv w) (aW L) a d)=some (0,[aW L,a,d,iv e,iv w]):=ax.of (by
 rw[aqh];simp)
theorem aO{a:Nat}(h:a<L.length)(x:ByteArray)(d:PV):ev (akH (sv x) (aW L) (iv a) d)=some (if lF L x a then(0,aW L::iv (a+1:Nat)::d::(ai L a).cells) else(1,[aW L,iv a,d,iv 110,iv (ai L a).at_])):=ax.of (by
 rw[aqo];cases hi:lF L x a<;>simp[Nw hW h,hi,ou hW h,d9 h,Tk.cells,nO hW])
theorem cB{a:Nat}(h:a<L.length)(k:Int)(d:PV):ev (ahJ (iv k) (aW L) (iv a) d)=some (if(ai L a).kind=k then(1,aW L::iv (a+1:Nat)::d::(ai L a).cells) else(0,[aW L,iv a,d,iv 110,iv (ai L a).at_])):=ax.of (by
 rw[aqB];by_cases hi:(ai L a).kind=k
 ·simp[d9 h,Tk.cells,hi,ou hW h]
 ·simp[d9 h,Tk.cells,hi,nO hW])
theorem Ny{a:Nat}(h:a<L.length){d:Int}(h0:0≤d)(h1:d≤300):ev (akL (aW L) (iv a) (iv d))=some (if 300<d+1 then(0,[aW L,iv a,iv (d+1),iv 111,iv (ai L a).at_]) else(1,[aW L,iv a,iv (d+1)])):=ax.of (by
 rw[aqA];have hw:IntKind.i64.wrap (d+1)=d+1:=aJ (by omega);by_cases hi:300<d+1
 ·simp[hw,hi,d9 h,Tk.cells,nO hW]
 ·simp[hw,hi])
theorem xk{a:Nat}(h:a<L.length)(d:PV):ev (akB (aW L) (iv a) d)=some (0,[aW L,iv a,d,bv (Gf L 0 a)]):=ax.of (by
 rw[aqd];unfold Gf;simp[d9 h,Tk.cells,Nw hW h];by_cases h2:(ai L a).kind=2
 ·simp[h2]
 ·by_cases h1:(ai L a).kind=1
  ·simp[h1,h2]
  ·cases h3:lF L ⟨#[40]⟩ a<;>simp[h1,h2,h3])
theorem R4{a:Nat}(h:a<L.length)(d:PV):ev (afW (aW L) (iv a) d)=some (0,[aW L,iv a,d,bv (Gf L 1 a)]):=ax.of (by
 rw[al9];unfold Gf;simp[d9 h,Tk.cells,Nw hW h];by_cases h2:(ai L a).kind=2
 ·simp[h2]
 ·by_cases h1:(ai L a).kind=1
  ·simp[h1,h2]
  ·by_cases h4:(ai L a).kind=3
   ·simp[h4]
   ·cases h3:lF L ⟨#[40]⟩ a<;>cases h5:lF L ⟨#[95]⟩ a<;>simp[h1,h2,h3,h4,h5])
theorem RZ{a:Nat}(h:a<L.length)(d:PV):ev (aky (aW L) (iv a) d)=some (0,[aW L,iv a,d,bv (Gf L 2 a)]):=ax.of (by
 rw[ap6];unfold Gf;simp[d9 h,Tk.cells,Nw hW h];by_cases h2:(ai L a).kind=2
 ·simp[h2]
 ·by_cases h1:(ai L a).kind=1
  ·simp[h1,h2]
  ·by_cases h4:(ai L a).kind=3
   ·simp[h4]
   ·by_cases h6:(ai L a).kind=4
    ·simp[h6]
    ·cases h3:lF L ⟨#[40]⟩ a<;>cases h5:lF L ⟨#[99,97,115,101]⟩ a<;>simp[h1,h2,h3,h4,h5,h6])
end
def nX{α:Type}(L:List Tk)(r:Rz α)(F:α→Nat→Rs→Prop)(E:Int→Int→Rs→Prop)(S:Rs→Prop):Prop:=match r with
 |.out=>True
 |.ok v b=>b<L.length∧∃z,S z∧F v b z
 |.err e w=>∃z,S z∧E e w z
def YE{α:Type}(L:List Tk)(a:Nat)(d:Int)(so:Nat)(enc:α→List PV)(v:α)(b:Nat)(z:Rs):Prop:=a<b∧z=(so,ps L b d (enc v))
def Vx(L:List Tk)(se:Nat)(e w:Int)(z:Rs):Prop:=∃(b:Nat) (d:Int),z=(se,ps L b d [iv e,iv w])
def okW{α:Type}(L:List Tk)(a:Nat)(d:Int)(m:List Nat)(enc:α→List PV)(v:α)(b:Nat)(z:Rs):Prop:=a<b∧∃k ys,z=(k,ps L b d ys)∧nth 0 m k=0∧dD ys=enc v
def erW(L:List Tk)(m:List Nat)(e w:Int)(z:Rs):Prop:=∃(k b:Nat) (d:Int),z=(k,ps L b d [iv e,iv w])∧nth 0 m k=1
section
variable{α β:Type}{L:List Tk}{F:α→Nat→Rs→Prop}{E E':Int→Int→Rs→Prop}{S:Rs→Prop}{R:aK}{d dd:Int}{a:Nat}
abbrev nY(L:List Tk)(q:Q)(r:Rz α)(F:α→Nat→Rs→Prop)(E:Int→Int→Rs→Prop):Prop:=nX L r F E fun z=>ev q=some z
abbrev PB_(L:List Tk)(R:aK)(r:Rz α)(F:α→Nat→Rs→Prop)(E:Int→Int→Rs→Prop):Prop:=nX L r F E fun z=>R=.ok z
theorem nX.of{q:Q}{r:Rz α}(h:PB_ L (body PG EE TT ev q) r F E):nY L q r F E:=by
 cases r with
 |out=>trivial
 |ok v b=>obtain⟨h0,z,h1,h2⟩:=h;exact⟨h0,z,ax.of h1,h2⟩
 |err e w=>obtain⟨z,h1,h2⟩:=h;exact⟨z,ax.of h1,h2⟩
theorem nX.bind{G:β→Nat→Rs→Prop}{q:Q}{p:GM β}{k:β→GM α}(h:nY L q (p dd a) G E')
  (hok:∀v b z,b<L.length→ev q=some z→G v b z→nX L (k v dd b) F E S) (herr:∀e w z,ev q=some z→E' e w z→∃z',S z'∧E e w z'):nX L (ak p k dd a) F E S:=by
 unfold ak;cases hr:p dd a with
 |out=>trivial
 |err e w=>
  rw[hr] at h;obtain⟨z,h1,h2⟩:=h;exact herr e w z h1 h2
 |ok v b=>
  rw[hr] at h;obtain⟨h0,z,h1,h2⟩:=h;exact hok v b z h0 h1 h2
theorem nX.may{x:ByteArray}{A B:GM α}(ht:lF L x a=true→nX L (A dd (a+1)) F E S)(hf:lF L x a=false→nX L (B dd a) F E S):nX L (dP L x A B dd a) F E S:=by
 unfold dP;cases h:lF L x a with
 |true=>simpa using ht h
 |false=>simpa using hf h
theorem nX.kind{k:Int}{A B:GM α}(ht:(ai L a).kind=k→nX L (A dd a) F E S)(hf:(ai L a).kind≠k→nX L (B dd a) F E S):nX L (kg L k A B dd a) F E S:=by
 unfold kg;by_cases h:(ai L a).kind=k
 ·rw[if_pos h];exact ht h
 ·rw[if_neg h];exact hf h
theorem nX.st{w:Int}{A B:GM α}(ht:Gf L w a=true→nX L (A dd a) F E S)(hf:Gf L w a=false→nX L (B dd a) F E S):nX L (Vt L w A B dd a) F E S:=by
 unfold Vt;cases h:Gf L w a with
 |true=>simpa using ht h
 |false=>simpa using hf h
theorem nX.next{k:Tk→GM α}(h:nX L (k (ai L a) dd a) F E S):nX L (mR L k dd a) F E S:=h
theorem nX.up{p:GM α}(h:nX L (p dd (a+1)) F E S):nX L (Av p dd a) F E S:=h
theorem nX.if'{c:Prop}[Decidable c]{A B:GM α}(ht:c→nX L (A dd a) F E S)(hf:¬c→nX L (B dd a) F E S):nX L ((if c then A else B) dd a) F E S:=by
 by_cases h:c
 ·rw[if_pos h];exact ht h
 ·rw[if_neg h];exact hf h
theorem nX.deep{A:GM α}(he:300<dd+1→∃z,S z∧E 111 (ai L a).at_ z)(hok:¬300<dd+1→nX L (A (dd+1) a) F E S):nX L (rE L A dd a) F E S:=by
 unfold rE;by_cases h:300<dd+1
 ·rw[if_pos h];exact he h
 ·rw[if_neg h];exact hok h
theorem nX.pure{v:α}{z:Rs}(ha:a<L.length)(hR:S z)(hF:F v a z):nX L (aS v dd a) F E S:=⟨ha,z,hR,hF⟩
theorem nX.callW{q:Q}{p:GM β}{k:β→GM α}{so se:Nat}{enc:β→List PV}(h:nY L q (p dd a) (YE L a dd so enc) (Vx L se))
  (hok:∀v b,b<L.length→a<b→ev q=some (so,ps L b dd (enc v))→nX L (k v dd b) F E S) (herr:∀e w b d',ev q=some (se,ps L b d' [iv e,iv w])→∃z',S z'∧E e w z'):nX L (ak p k dd a) F E S:=
 .bind h (fun v b z hb hz hF=>by obtain⟨h1,rfl⟩:=hF;exact hok v b hb h1 hz) (fun e w z hz hE=>by obtain⟨b,d',rfl⟩:=hE;exact herr e w b d' hz)
theorem nX.take{k:Int}{x:ByteArray}{f:Tk→GM α}(hk:¬k<6)(hok:lF L x a=true→nX L (f (ai L a) dd (a+1)) F E S)(herr:lF L x a=false→∃z,S z∧E 110 (ai L a).at_ z):nX L (ak (aV L k x) f dd a) F E S:=by
 unfold ak aV UR;simp only[if_neg hk];cases h:lF L x a with
 |true=>simp only[if_true];exact hok h
 |false=>simp only[Bool.false_eq_true,if_false];exact herr h
theorem nX.takeK{k:Int}{x:ByteArray}{f:Tk→GM α}(hk:k<6)(hok:(ai L a).kind=k→nX L (f (ai L a) dd (a+1)) F E S)(herr:(ai L a).kind≠k→∃z,S z∧E 110 (ai L a).at_ z):nX L (ak (aV L k x) f dd a) F E S:=by
 unfold ak aV UR;simp only[if_pos hk];by_cases h:(ai L a).kind=k
 ·rw[decide_eq_true h];simp only[if_true];exact hok h
 ·rw[decide_eq_false h];simp only[Bool.false_eq_true,if_false];exact herr h
theorem nX.weak{q qw:Q}{r:Rz α}{enc:α→List PV}{m:List Nat}(hw:body PG EE TT ev qw=weakM m (ev q))(h:nY L q r (okW L a d m enc) (erW L m)):nY L qw r (YE L a d 0 enc) (Vx L 1):=by
 cases r with
 |out=>trivial
 |ok v b=>
  obtain⟨h0,z,h1,h2,k,ys,rfl,hk,hy⟩:=h;refine⟨h0,_,ax.of ?_,h2,rfl⟩;rw[hw,h1,iZ,hk];simp[hy]
 |err e w=>
  obtain⟨z,h1,k,b,d',rfl,hk⟩:=h;refine⟨_,ax.of ?_,b,d',rfl⟩;rw[hw,h1,iZ,hk]
theorem okW.of{m:List Nat}{enc:α→List PV}{v:α}{b k:Nat}{ys:List PV}(ha:a<b)(hk:nth 0 m k=0)(hy:dD ys=enc v):okW L a d m enc v b (k,ps L b d ys):=⟨ha,k,ys,rfl,hk,hy⟩
theorem erW.of{m:List Nat}{b k:Nat}{e w:Int}(hk:nth 0 m k=1):erW L m e w (k,ps L b d [iv e,iv w]):=⟨k,b,d,rfl,hk⟩
variable(hW:F3 L)
include hW
theorem acN(h:a<L.length){k:Int}(h1:1≤k)(h6:k<6)(x:ByteArray):nY L (ahJ (iv k) (aW L) (iv a) (iv d)) (aV L k x d a) (YE L a d 1 Tk.cells) (Vx L 0):=by
 have hq:=cB hW h k (iv d);unfold aV UR;simp only[if_pos h6];by_cases hi:(ai L a).kind=k
 ·simp only[hi,decide_true,if_true] at hq ⊢
  exact⟨hW.fin a (by omega),_,hq,Nat.lt_succ_self _,rfl⟩
 ·simp only[hi,decide_false,Bool.false_eq_true,if_false] at hq ⊢
  exact⟨_,hq,a,d,rfl⟩
end
abbrev pTy(L:List Tk)(a:Nat)(d:Int):Q:=afV (aW L) (iv a) (iv d)
abbrev pAt(L:List Tk)(a:Nat)(d:Int):Q:=afF (aW L) (iv a) (iv d)
abbrev pBt(L:List Tk)(a:Nat)(d:Int):Q:=afO (aW L) (iv a) (iv d)
abbrev zz:List PV:=[iv 0,sv eB,iv 0,.lit (.slice none 0 0)]
abbrev Pa{α:Type}(L:List Tk)(q:Nat→Int→Q)(enc:α→List PV)(g:GM α):Prop:=∀(a:Nat) (d:Int),0≤d→d≤300→a<L.length→nY L (q a d) (g d a) (YE L a d 0 enc) (Vx L 1)
def btG(L:List Tk)(n:Nat):GM Ty:=mR L fun t=>if t.kind=2 then Av (ak (cu L n []) fun l=>aS (.mk 3 t.text 0 l)) else fM L n
section
variable{L:List Tk}(hW:F3 L)
include hW
theorem ag7{n:Nat}(nm:ByteArray):∀(m:Nat),m≤n→(∀m,m≤n→Pa L (pAt L) rP (fM L m))→∀(l:List Ty) (a:Nat) (d:Int),0≤d→d≤300→a<L.length→l.length≤a→nY L (QD (aW L) (iv a) (iv d) (sv nm) (l.map Ty.cells)) (cu L m l d a)
  (fun v b z=>a≤b∧(l≠[]→v≠[])∧z=(3,ps L b d (iv 3::sv nm::iv 0::bH v::zz))) (fun e w z=>∃(b:Nat) (d':Int) (T:PV),z=(2,ps L b d' (iv 3::sv nm::iv 0::T::(zz++[iv e,iv w])))):=by
 intro m hm hat
 induction m with
 |zero=>intro l a d h0 h1 ha hl;unfold cu;rw[xZ];trivial
 |succ m ih=>
  intro l a d h0 h1 ha hl;refine .of ?_;rw[iG,aek];simp[xk hW ha];refine .st (fun hs=>?_) (fun hs=>?_)
  ·simp[hs]
   refine .callW (hat m (by omega) a d h0 h1 ha) (fun v b hb hab g=>?_) (fun e w b d' g=>?_)
   ·simp[g]
    have hap:=fun k'=>aN (P:=PG) (d:=.fail) (k:=k') abU (wZ l) (c:=rP v) rfl (by simp) (by have:=hW.len;simp;omega) (by decide)
    simp[hap];have hn:=ih (by omega) (l++[v]) b d h0 h1 hb (by simp;omega);rw[List.map_append,List.map_cons,List.map_nil,Ty.cells_eq v] at hn;cases hr:cu L m (l++[v]) d b with
    |out=>trivial
    |err e w=>rw[hr] at hn;obtain⟨z,g1,b2,d',T,rfl⟩:=hn;exact⟨_,by simp[g1],b2,d',T,rfl⟩
    |ok v2 b2=>rw[hr] at hn;obtain⟨hb2,z,g1,h5,h6,rfl⟩:=hn;exact⟨hb2,_,by simp[g1],by omega,fun _=>h6 (by simp),rfl⟩
   ·exact⟨_,by simp[g,bH],b,d',bH l,rfl⟩
  ·exact .pure ha (by simp[hs,bH]) ⟨Nat.le_refl _,fun h=>h,rfl⟩
theorem ab8{n:Nat}(nm:ByteArray)(m:Nat)(hm:m≤n+1)(hat:∀m,m≤n→Pa L (pAt L) rP (fM L m))(a:Nat)(d:Int)(h0:0≤d)(h1:d≤300)(ha:a<L.length)(hpos:0<a):nY L (QE (aW L) (iv a) (iv d) (sv nm)) (cu L m [] d a)
  (fun v b z=>a≤b∧z=(match v with|[]=>(1,ps L b d (iv 3::sv nm::iv 0::nS::zz))|_::_=>(3,ps L b d (iv 3::sv nm::iv 0::bH v::zz))))
  (fun e w z=>∃(b:Nat) (d':Int),z=(0,ps L b d' (iv 3::sv nm::iv 0::nS::(zz++[iv e,iv w])))∨∃T,z=(2,ps L b d' (iv 3::sv nm::iv 0::T::(zz++[iv e,iv w])))):=by
 cases m with
 |zero=>unfold cu;rw[xZ];trivial
 |succ m=>
  refine .of ?_;rw[iG,ael];simp[xk hW ha];refine .st (fun hs=>?_) (fun hs=>?_)
  ·simp[hs]
   refine .callW (hat m (by omega) a d h0 h1 ha) (fun v b hb hab g=>?_) (fun e w b d' g=>?_)
   ·simp[g]
    have hn:=ag7 hW nm m (by omega) hat [v] b d h0 h1 hb (by simp;omega);rw[List.map_cons,List.map_nil,Ty.cells_eq v] at hn;cases hr:cu L m [v] d b with
    |out=>trivial
    |err e w=>rw[hr] at hn;obtain⟨z,g1,b2,d',T,rfl⟩:=hn;exact⟨_,by simp[g1],b2,d',.inr ⟨T,rfl⟩⟩
    |ok v2 b2=>
     rw[hr] at hn;obtain⟨hb2,z,g1,h5,h6,rfl⟩:=hn;cases v2 with
     |nil=>exact absurd rfl (h6 (by simp))
     |cons x l=>exact⟨hb2,_,by simp[g1],by omega,rfl⟩
   ·exact⟨_,by simp[g],b,d',.inl rfl⟩
  ·exact .pure ha (by simp[hs]) ⟨Nat.le_refl _,rfl⟩
theorem ab5{n:Nat}(hat:∀m,m≤n→Pa L (pAt L) rP (fM L m)):Pa L (pBt L) rP (btG L n):=by
 intro a d h0 h1 ha;refine .weak (al0 ev _ _ _) (.of ?_);rw[aqz];simp[d9 ha,Tk.cells];refine .next (.if' (fun k2=>?_) (fun k2=>?_))
 ·simp[k2]
  have hl:=hW.fin a (by omega);simp[-Int.natCast_add,ou hW ha,Tk.cells];have hn:=ab8 hW (ai L a).text n (by omega) hat (a+1) d h0 h1 hl (by omega);refine .up (.bind hn (fun v b z hb g hz=>?_) (fun e w z g hz=>?_))
  ·obtain⟨hab,hz⟩:=hz
   cases v with
   |nil=>
    subst hz;exact .pure hb (by simp[-Int.natCast_add,g]) (.of (m:=[0,1,0]) (k:=0) (ys:=[iv 3,sv (ai L a).text,iv 0,nS]) (by omega) rfl (by simp[bH]))
   |cons x l=>
    subst hz;exact .pure hb (by simp[-Int.natCast_add,g]) (.of (m:=[0,1,0]) (k:=2) (ys:=[iv 3,sv (ai L a).text,iv 0,bH (x::l)]) (by omega) rfl (by simp))
  ·obtain⟨b,d',rfl|⟨T,rfl⟩⟩:=hz
   ·exact⟨_,by simp[-Int.natCast_add,g],.of (m:=[0,1,0]) (b:=b) (d:=d') (k:=1) rfl⟩
   ·exact⟨_,by simp[-Int.natCast_add,g],.of (m:=[0,1,0]) (b:=b) (d:=d') (k:=1) rfl⟩
 ·simp[k2]
  have ht:=hat n (Nat.le_refl _) a d h0 h1 ha;cases hr:fM L n d a with
  |out=>trivial
  |err e w=>rw[hr] at ht;obtain⟨z,g,b,d',rfl⟩:=ht;exact⟨_,by simp[g],.of (m:=[0,1,0]) (b:=b) (d:=d') (k:=1) rfl⟩
  |ok v b=>rw[hr] at ht;obtain⟨hb,z,g,hab,rfl⟩:=ht;exact⟨hb,_,by simp[g],.of (m:=[0,1,0]) (k:=0) (ys:=rP v) hab rfl (by simp)⟩
theorem ab7{n:Nat}(ih:Pa L (pTy L) rP (iQ L n)):Pa L (pAt L) rP (fM L (n+1)):=by
 intro a d h0 h1 ha;refine .weak (alO ev _ _ _) (.of ?_);rw[qc,aqe];simp[-Int.natCast_add,ou hW ha,Tk.cells];refine .next (.if' (fun k2=>?_) (fun k2=>.if' (fun k1=>?_) (fun k1=>?_)))
 ·exact .up (.pure (hW.fin a (by omega)) (by simp[-Int.natCast_add,k2]) (.of (m:=[0,1]) (k:=0) (ys:=[iv 3,sv (ai L a).text,iv 0,nS]) (by omega) rfl (by simp[bH])))
 ·exact .up (.pure (hW.fin a (by omega)) (by simp[-Int.natCast_add,k1]) (.of (m:=[0,1]) (k:=0) (ys:=[iv 1,sv (ai L a).text,iv 0,nS]) (by omega) rfl (by simp[bH])))
 ·have ka:(ai L a).kind=7→(ai L a).text=Ki→lF L Ki a=true:=fun h1 h2=>by unfold lF;simp[h1,h2]
  refine .take (by decide) (fun ho=>?_) (fun ho=>?_)
  ·have hk:(ai L a).kind=7∧(ai L a).text=Ki:=by
    unfold lF at ho;rw[Bool.and_eq_true,decide_eq_true_eq,decide_eq_true_eq] at ho;have ht:=hW.top a;have h6:(ai L a).kind≠6:=fun h6=>(hW.k6 a h6).1 ho.2
    exact⟨by omega,ho.2⟩
   have hl:=hW.fin a (by omega);simp[-Int.natCast_add,hk.1,hk.2];simp[-Int.natCast_add,dH hW hl];refine .may (fun hc=>?_) (fun hc=>?_)
   ·have hl2:=hW.fin (a+1) (by intro h0;unfold lF at hc;simp[h0] at hc)
    exact .pure hl2 (by simp[-Int.natCast_add,hc]) (.of (m:=[0,1]) (k:=0) (ys:=[iv 3,sv sUn,iv 0,nS]) (by omega) rfl (by simp[bH]))
   ·simp[-Int.natCast_add,hc]
    refine .callW (ih (a+1) d h0 h1 hl) (fun v b hb hab g=>?_) (fun e w b d' g=>?_)
    ·simp[-Int.natCast_add,g]
     refine .take (by decide) (fun hc=>?_) (fun hc=>?_)
     ·have hb2:=hW.fin b (by intro h0;unfold lF at hc;simp[h0] at hc)
      exact .pure hb2 (by simp[-Int.natCast_add,aO hW hb,hc,Tk.cells]) (.of (m:=[0,1]) (k:=0) (ys:=rP v) (by omega) rfl (by simp))
     ·exact⟨_,by simp[-Int.natCast_add,aO hW hb,hc],.of (m:=[0,1]) (b:=b) (d:=d) (k:=1) rfl⟩
    ·exact⟨_,by simp[-Int.natCast_add,g],.of (m:=[0,1]) (b:=b) (d:=d') (k:=1) rfl⟩
  ·refine⟨_,?_,.of (m:=[0,1]) (b:=a+1) (d:=d) (k:=1) rfl⟩
   by_cases k7:(ai L a).kind=7
   ·have kx:¬(ai L a).text=Ki:=fun h=>by rw[ka k7 h] at ho;cases ho
    simp[-Int.natCast_add,k7,kx,nO hW]
   ·simp[-Int.natCast_add,k2,k1,k7,nO hW]
theorem agX{n:Nat}(ih:Pa L (pTy L) rP (iQ L n))(hbt:Pa L (pBt L) rP (btG L n)):Pa L (pTy L) rP (iQ L (n+1)):=by
 intro a d h0 h1 ha;refine .weak (al8 ev _ _ _) (.of ?_);rw[oh,aqL];simp[Ny hW ha h0 h1];refine .deep (fun hd=>?_) (fun hd=>?_)
 ·exact⟨_,by simp[hd],.of (m:=[0,1,0]) (b:=a) (d:=d+1) (k:=1) rfl⟩
 ·simp[hd]
  have hw:IntKind.i64.wrap d=d:=aJ (by omega);have hq:=hbt a (d+1) (by omega) (by omega) ha;show nX L (ak (btG L n) (fun x=>dP L BV (ak (iQ L n) fun y=>aS (.mk 3 BV 0 [x,y])) (aS x)) (d+1) a) _ _ _;refine .callW hq (fun v b hb hab g=>?_) (fun e w b d' g=>?_)
  ·simp[g,dH hW hb]
   refine .may (fun hc=>?_) (fun hc=>?_)
   ·have hl2:=hW.fin b (by intro h0;unfold lF at hc;simp[h0] at hc)
    simp[-Int.natCast_add,hc];refine .callW (ih (b+1) (d+1) (by omega) (by omega) hl2) (fun v2 b2 hb2 hab2 g2=>?_) (fun e w b2 d' g2=>?_)
    ·exact .pure hb2 (by simp[-Int.natCast_add,g2,hw]) (.of (m:=[0,1,0]) (k:=0) (ys:=[iv 3,sv BV,iv 0,.rows [rP v,rP v2]]) (by omega) rfl (by simp[bG,iB,j3,Aw]))
    ·exact⟨_,by simp[-Int.natCast_add,g2];rfl,.of (m:=[0,1,0]) (b:=b2) (k:=1) rfl⟩
   ·exact .pure hb (by simp[hc,hw]) (.of (m:=[0,1,0]) (k:=2) (ys:=rP v) (by omega) rfl (by simp))
  ·exact⟨_,by simp[g];rfl,.of (m:=[0,1,0]) (b:=b) (k:=1) rfl⟩
theorem wU:∀n m,m≤n→Pa L (pTy L) rP (iQ L m)∧Pa L (pAt L) rP (fM L m)
 |_,0,_=>⟨fun a d _ _ _=>by rw[iQ];trivial,fun a d _ _ _=>by rw[fM];trivial⟩
 |n+1,m+1,hm=>⟨agX hW (wU n m (by omega)).1 (ab5 hW fun k hk=>(wU n k (by omega)).2),ab7 hW (wU n m (by omega)).1⟩
theorem ajP(n:Nat):Pa L (pTy L) rP (iQ L n):=(wU hW n n (Nat.le_refl _)).1
theorem s_at(n:Nat):Pa L (pAt L) rP (fM L n):=(wU hW n n (Nat.le_refl _)).2
end
abbrev pPt(L:List Tk)(a:Nat)(d:Int):Q:=XL (aW L) (iv a) (iv d)
abbrev ale(L:List Tk)(a:Nat)(d:Int):Q:=afX (aW L) (iv a) (iv d)
abbrev Yt(L:List Tk)(a:Nat)(d:Int):Q:=XD (aW L) (iv a) (iv d)
def apP(L:List Tk)(a:Nat)(d:Int)(v:Pt)(b:Nat)(z:Rs):Prop:=a<b∧∃K,z=(0,ps L b d [iv v.kind,sv v.name,iv v.n,K,iv v.at_])∧(K=nS∧v.kids=[]∨K=pts v.kids∧(ai L a).kind≠2)
abbrev PaA(L:List Tk)(g:GM Pt):Prop:=∀(a:Nat) (d:Int),0≤d→d≤300→a<L.length→nY L (ale L a d) (g d a) (apP L a d) (Vx L 1)
theorem zC{L:List Tk}{a:Nat}{d:Int}{z:Rs}(h:ev (ale L a d)=some z):ev (Yt L a d)=some (match z.1 with|0=>(0,dD z.2)|k=>(1,z.2))∨z.1≠0∧z.1≠1:=by
 obtain⟨k,ys⟩:=z
 match k with
 |0=>exact .inl (ax.of (by rw[ZY ev,h,iZ];rfl))
 |1=>exact .inl (ax.of (by rw[ZY ev,h,iZ];rfl))
 |k+2=>exact .inr ⟨by simp,by simp⟩
section
variable{L:List Tk}(hW:F3 L)
include hW
theorem aH{a:Nat}{x:ByteArray}(h:lF L x a=true):a+1<L.length:=hW.fin a (by intro h0;unfold lF at h;simp[h0] at h)
theorem Zg{a:Nat}{x:ByteArray}(hx:x=Ki∨x=sUs)(h:lF L x a=true):(ai L a).kind=7∧(ai L a).text=x:=by
 unfold lF at h;rw[Bool.and_eq_true,decide_eq_true_eq,decide_eq_true_eq] at h;have ht:=hW.top a;have h6:(ai L a).kind≠6:=fun h6=>by rcases hx with rfl|rfl;exact(hW.k6 a h6).1 h.2;exact(hW.k6 a h6).2 h.2
 exact⟨by omega,h.2⟩
omit hW in
theorem NY{a:Nat}{x:ByteArray}(h:lF L x a=false)(k7:(ai L a).kind=7):¬(ai L a).text=x:=fun h2=>by unfold lF at h;simp[k7,h2] at h
theorem ag9{n:Nat}(ih:Pa L (pPt L) ES (nZ L n)):PaA L (jQ L (n+1)):=by
 intro a d h0 h1 ha;refine .of ?_;rw[jQ,ama];simp[-Int.natCast_add,ou hW ha,Tk.cells];refine .next (.if' (fun k2=>?_) (fun k2=>.if' (fun k1=>?_) (fun k1=>.if' (fun k3=>?_) (fun k3=>?_))))
 ·exact .up (.pure (hW.fin a (by omega)) (by simp[-Int.natCast_add,k2]) ⟨by omega,nS,rfl,.inl ⟨rfl,rfl⟩⟩)
 ·exact .up (.pure (hW.fin a (by omega)) (by simp[-Int.natCast_add,k1]) ⟨by omega,nS,rfl,.inl ⟨rfl,rfl⟩⟩)
 ·exact .up (.pure (hW.fin a (by omega)) (by simp[-Int.natCast_add,k3]) ⟨by omega,nS,rfl,.inl ⟨rfl,rfl⟩⟩)
 ·refine .may (fun hu=>?_) (fun hu=>?_)
  ·obtain⟨k7,hx⟩:=Zg hW (.inr rfl) hu
   exact .pure (aH hW hu) (by simp[-Int.natCast_add,k7,hx]) ⟨by omega,nS,rfl,.inl ⟨rfl,rfl⟩⟩
  ·refine .take (by decide) (fun ho=>?_) (fun ho=>?_)
   ·obtain⟨k7,hx⟩:=Zg hW (.inl rfl) ho
    have hl:=aH hW ho;simp[-Int.natCast_add,k7,hx];simp[-Int.natCast_add,dH hW hl];refine .may (fun hc=>?_) (fun hc=>?_)
    ·exact .pure (aH hW hc) (by simp[-Int.natCast_add,hc]) ⟨by omega,nS,rfl,.inl ⟨rfl,rfl⟩⟩
    ·simp[-Int.natCast_add,hc]
     refine .callW (ih (a+1) d h0 h1 hl) (fun v b hb hab g=>?_) (fun e w b d' g=>?_)
     ·simp[-Int.natCast_add,g]
      refine .take (by decide) (fun hc=>?_) (fun hc=>?_)
      ·exact .pure (aH hW hc) (by simp[-Int.natCast_add,aO hW hb,hc,Tk.cells]) ⟨by omega,pts v.kids,rfl,.inr ⟨rfl,k2⟩⟩
      ·exact⟨_,by simp[-Int.natCast_add,aO hW hb,hc],b,d,rfl⟩
     ·exact⟨_,by simp[-Int.natCast_add,g],b,d',rfl⟩
   ·refine⟨_,?_,a+1,d,rfl⟩
    by_cases k7:(ai L a).kind=7
    ·simp[-Int.natCast_add,k7,NY ho k7,NY hu k7,nO hW]
    ·simp[-Int.natCast_add,k2,k1,k3,k7,nO hW]
omit hW in
theorem Yf{K:PV}{v:Pt}(hK:K=nS∧v.kids=[]∨K=pts v.kids):dD [iv v.kind,sv v.name,iv v.n,K,iv v.at_]=v.cells∧kH [iv v.kind,sv v.name,iv v.n,K,iv v.at_]:=by
 rcases hK with⟨rfl,h⟩|rfl
 ·exact⟨by rw[Pt.cells_eq];simp[h],by simp⟩
 ·exact⟨by rw[Pt.cells_eq];simp,by simp⟩
theorem agY{n:Nat}(k:Int)(nm:ByteArray)(z0:Int)(at0:Int):∀(m:Nat),m≤n→(∀m,m≤n→PaA L (jQ L m))→∀(l:List Pt) (es:List (List PV)) (a:Nat) (d:Int),0≤d→d≤300→a<L.length→l.length≤a→Raw 5 es (l.map Pt.cells)→nY L (Kr (aW L) (iv a) (iv d) (iv k) (sv nm) (iv z0) es (iv at0)) (jr L m l d a)
  (fun v b z=>a≤b∧∃es',Raw 5 es' (v.map Pt.cells)∧z=(3,ps L b d [iv k,sv nm,iv z0,.rows es',iv at0,iv 0,sv eB,iv 0,nS,iv 0])) (fun e w z=>∃(b:Nat) (d':Int) (T:PV),z=(2,ps L b d' [iv k,sv nm,iv z0,T,iv at0,iv 0,sv eB,iv 0,nS,iv 0,iv e,iv w])):=by
 intro m hm hat
 induction m with
 |zero=>intro l es a d h0 h1 ha hl hr;rw[jr];trivial
 |succ m ih=>
  intro l es a d h0 h1 ha hl hr;refine .of ?_;rw[jr,aaf];simp[R4 hW ha];refine .st (fun hs=>?_) (fun hs=>?_)
  ·simp[hs]
   refine .bind (hat m (by omega) a d h0 h1 ha) (fun v b z hb g hz=>?_) (fun e w z g hz=>?_)
   ·obtain⟨hab,K,rfl,hK⟩:=hz
    have gw:=(zC g).resolve_right (fun h=>h.1 rfl);obtain⟨hc,hns⟩:=Yf (v:=v) (hK.imp id And.left);have hln:=hr.len;rw[List.length_map] at hln;have hap:=fun k'=>aN (P:=PG) (d:=.fail) (k:=k') agS hr (c:=[iv v.kind,sv v.name,iv v.n,K,iv v.at_]) rfl hns (by have:=hW.len;omega) (by decide)
    have hapw:=fun k'=>aN (P:=PG) (d:=.fail) (k:=k') agS hr (c:=ES v) rfl (by simp) (by have:=hW.len;omega) (by decide)
    have hr2:Raw 5 (es++[[iv v.kind,sv v.name,iv v.n,K,iv v.at_]]) ((l++[v]).map Pt.cells):=by
     have:=hr.app (c:=[iv v.kind,sv v.name,iv v.n,K,iv v.at_]) hc rfl hns;simpa using this
    have hr3:Raw 5 (es++[ES v]) ((l++[v]).map Pt.cells):=by
     have:=hr.app (c:=ES v) (c':=v.cells) (by rw[Pt.cells_eq];simp) rfl (by simp);simpa using this
    have key:∀es',Raw 5 es' ((l++[v]).map Pt.cells)→_:=fun es' he=>ih (by omega) (l++[v]) es' b d h0 h1 hb (by simp;omega) he
    rcases hK with⟨rfl,hk⟩|⟨rfl,hk⟩
    ·simp[g,gw,hap]
     have hn:=key _ hr2;cases hr:jr L m (l++[v]) d b with
     |out=>trivial
     |err e w=>rw[hr] at hn;obtain⟨z,g1,b2,d',T,rfl⟩:=hn;exact⟨_,by simp[g1],b2,d',T,rfl⟩
     |ok v2 b2=>rw[hr] at hn;obtain⟨hb2,z,g1,h5,es',h6,rfl⟩:=hn;exact⟨hb2,_,by simp[g1],by omega,es',h6,rfl⟩
    ·have gw:ev (Yt L a d)=some (0,ps L b d (ES v)):=by simpa using gw
     have hx:∀k:aK,isK .fail nS (pts v.kids) k=.fail:=fun k=>pV _ _ _
     simp[g,gw,hx,hapw];have hn:=key _ hr3;cases hr:jr L m (l++[v]) d b with
     |out=>trivial
     |err e w=>rw[hr] at hn;obtain⟨z,g1,b2,d',T,rfl⟩:=hn;exact⟨_,by simp[g1],b2,d',T,rfl⟩
     |ok v2 b2=>rw[hr] at hn;obtain⟨hb2,z,g1,h5,es',h6,rfl⟩:=hn;exact⟨hb2,_,by simp[g1],by omega,es',h6,rfl⟩
   ·obtain⟨b,d',rfl⟩:=hz
    have gw:=(zC g).resolve_right (fun h=>h.2 rfl);exact⟨_,by simp[g,gw],b,d',.rows es,rfl⟩
  ·exact .pure ha (by simp[hs]) ⟨Nat.le_refl _,es,hr,rfl⟩
theorem ab0{n:Nat}(k:Int)(nm:ByteArray)(z0:Int)(at0:Int)(m:Nat)(hm:m≤n)(hat:∀m,m≤n→PaA L (jQ L m))(a:Nat)(d:Int)(h0:0≤d)(h1:d≤300)(ha:a<L.length):nY L (Kv (aW L) (iv a) (iv d) (iv k) (sv nm) (iv z0) (iv at0)) (jr L m [] d a)
  (fun v b z=>a≤b∧(v=[]∧z=(1,ps L b d [iv k,sv nm,iv z0,nS,iv at0,iv 0,sv eB,iv 0,nS,iv 0])∨∃es',Raw 5 es' (v.map Pt.cells)∧z=(3,ps L b d [iv k,sv nm,iv z0,.rows es',iv at0,iv 0,sv eB,iv 0,nS,iv 0])))
  (fun e w z=>∃(b:Nat) (d':Int),z=(0,ps L b d' [iv k,sv nm,iv z0,nS,iv at0,iv 0,sv eB,iv 0,nS,iv 0,iv e,iv w])∨∃(T:PV),z=(2,ps L b d' [iv k,sv nm,iv z0,T,iv at0,iv 0,sv eB,iv 0,nS,iv 0,iv e,iv w])):=by
 cases m with
 |zero=>rw[jr];trivial
 |succ m=>
  refine .of ?_;rw[jr,aai];simp[R4 hW ha];refine .st (fun hs=>?_) (fun hs=>?_)
  ·simp[hs]
   refine .bind (hat m (by omega) a d h0 h1 ha) (fun v b z hb g hz=>?_) (fun e w z g hz=>?_)
   ·obtain⟨hab,K,rfl,hK⟩:=hz
    have gw:=(zC g).resolve_right (fun h=>h.1 rfl);obtain⟨hc,hns⟩:=Yf (v:=v) (hK.imp id And.left);have hr2:Raw 5 [[iv v.kind,sv v.name,iv v.n,K,iv v.at_]] ([v].map Pt.cells):=.one hc rfl hns;have hr3:Raw 5 [ES v] ([v].map Pt.cells):=.one (by rw[Pt.cells_eq];simp) rfl (by simp);have key:∀es',Raw 5 es' ([v].map Pt.cells)→_:=fun es' he=>agY hW k nm z0 at0 m (by omega) hat [v] es' b d h0 h1 hb (by simp;omega) he
    rcases hK with⟨rfl,hk⟩|⟨rfl,hk⟩
    ·simp[g,gw]
     have hn:=key _ hr2;cases hr:jr L m [v] d b with
     |out=>trivial
     |err e w=>rw[hr] at hn;obtain⟨z,g1,b2,d',T,rfl⟩:=hn;exact⟨_,by simp[g1],b2,d',.inr ⟨T,rfl⟩⟩
     |ok v2 b2=>rw[hr] at hn;obtain⟨hb2,z,g1,h5,es',h6,rfl⟩:=hn;exact⟨hb2,_,by simp[g1],by omega,.inr ⟨es',h6,rfl⟩⟩
    ·have gw:ev (Yt L a d)=some (0,ps L b d (ES v)):=by simpa using gw
     have hx:∀k:aK,isK .fail nS (pts v.kids) k=.fail:=fun k=>pV _ _ _
     simp[g,gw,hx];have hn:=key _ hr3;cases hr:jr L m [v] d b with
     |out=>trivial
     |err e w=>rw[hr] at hn;obtain⟨z,g1,b2,d',T,rfl⟩:=hn;exact⟨_,by simp[g1],b2,d',.inr ⟨T,rfl⟩⟩
     |ok v2 b2=>rw[hr] at hn;obtain⟨hb2,z,g1,h5,es',h6,rfl⟩:=hn;exact⟨hb2,_,by simp[g1],by omega,.inr ⟨es',h6,rfl⟩⟩
   ·obtain⟨b,d',rfl⟩:=hz
    have gw:=(zC g).resolve_right (fun h=>h.2 rfl);exact⟨_,by simp[g,gw],b,d',.inl rfl⟩
  ·exact .pure ha (by simp[hs]) ⟨Nat.le_refl _,.inl ⟨rfl,rfl⟩⟩
theorem ajR{n:Nat}(hat:∀m,m≤n→PaA L (jQ L m)):Pa L (pPt L) ES (nZ L (n+1)):=by
 intro a d h0 h1 ha;refine .weak (aiv ev _ _ _) (.of ?_);rw[nZ,amc];simp[Ny hW ha h0 h1];refine .deep (fun hd=>?_) (fun hd=>?_)
 ·exact⟨_,by simp[hd],.of (m:=[0,0,1]) (b:=a) (d:=d+1) (k:=2) rfl⟩
 ·simp[hd,d9 ha,Tk.cells]
  have hw:IntKind.i64.wrap d=d:=aJ (by omega);refine .next (.bind (hat n (Nat.le_refl _) a (d+1) (by omega) (by omega) ha) (fun v b z hb g hz=>?_) (fun e w z g hz=>?_))
  ·obtain⟨hab,K,rfl,hK⟩:=hz
   have gw:=(zC g).resolve_right (fun h=>h.1 rfl);refine .if' (fun k2=>?_) (fun k2=>?_)
   ·rcases hK with⟨rfl,hk⟩|⟨_,hk⟩
    ·simp[k2,g,gw]
     refine .bind (ab0 hW v.kind v.name v.n v.at_ n (Nat.le_refl _) hat b (d+1) (by omega) (by omega) hb) (fun l b2 z hb2 g2 hz=>?_) (fun e w z g2 hz=>?_)
     ·obtain⟨h5,hz⟩:=hz
      rcases hz with⟨rfl,rfl⟩|⟨es',h6,rfl⟩
      ·exact .pure hb2 (by simp[g2,hw]) (.of (m:=[0,0,1]) (k:=0) (ys:=[iv v.kind,sv v.name,iv v.n,nS,iv v.at_]) (by omega) rfl (by simp))
      ·exact .pure hb2 (by simp[g2,hw]) (.of (m:=[0,0,1]) (k:=1) (ys:=[iv v.kind,sv v.name,iv v.n,.rows es',iv v.at_]) (by omega) rfl (by simp[h6.wd,pts]))
     ·obtain⟨b2,d',rfl|⟨T,rfl⟩⟩:=hz
      ·exact⟨_,by simp[g2];rfl,.of (m:=[0,0,1]) (b:=b2) (k:=2) rfl⟩
      ·exact⟨_,by simp[g2];rfl,.of (m:=[0,0,1]) (b:=b2) (k:=2) rfl⟩
    ·exact absurd k2 hk
   ·rcases hK with⟨rfl,hk⟩|⟨rfl,hk⟩
    ·have hc:ev (Ku (aW L) (iv b) (iv (d+1)) (iv v.kind) (sv v.name) (iv v.n) (iv v.at_))=some (1,ps L b (d+1) [iv v.kind,sv v.name,iv v.n,nS,iv v.at_,iv 0,sv eB,iv 0,nS,iv 0]):=ax.of (by rw[aah];simp)
     exact .pure hb (by simp[k2,g,gw,hc,hw]) (.of (m:=[0,0,1]) (k:=0) (ys:=[iv v.kind,sv v.name,iv v.n,nS,iv v.at_]) (by omega) rfl (by simp[hk]))
    ·have gw:ev (Yt L a (d+1))=some (0,ps L b (d+1) (ES v)):=by simpa using gw
     have hx:∀k:aK,isK .fail nS (pts v.kids) k=.fail:=fun k=>pV _ _ _
     have hc:ev (Kt (aW L) (iv b) (iv (d+1)) (iv v.kind) (sv v.name) (iv v.n) (pts v.kids) (iv v.at_))=some (1,ps L b (d+1) [iv v.kind,sv v.name,iv v.n,pts v.kids,iv v.at_,iv 0,sv eB,iv 0,nS,iv 0]):=ax.of (by rw[aag];simp);exact .pure hb (by simp[k2,g,gw,hx,hc,hw]) (.of (m:=[0,0,1]) (k:=0) (ys:=ES v) (by omega) rfl (by simp))
  ·obtain⟨b,d',rfl⟩:=hz
   have gw:=(zC g).resolve_right (fun h=>h.2 rfl);have gw:ev (Yt L a (d+1))=some (1,ps L b d' [iv e,iv w]):=gw;refine⟨_,?_,.of (m:=[0,0,1]) (b:=b) (d:=IntKind.i64.wrap (d'-1)) (k:=2) rfl⟩;by_cases k2:(ai L a).kind=2
   ·simp[k2,g,gw]
   ·simp[k2,g,gw]
theorem Gs:∀n m,m≤n→Pa L (pPt L) ES (nZ L m)∧PaA L (jQ L m)
 |_,0,_=>⟨fun a d _ _ _=>by rw[nZ];trivial,fun a d _ _ _=>by rw[jQ];trivial⟩
 |n+1,m+1,hm=>⟨ajR hW fun k hk=>(Gs n k (by omega)).2,ag9 hW (Gs n m (by omega)).1⟩
theorem ajQ(n:Nat):Pa L (pPt L) ES (nZ L n):=(Gs hW n n (Nat.le_refl _)).1
end
set_option maxRecDepth 10000
abbrev R5(L:List Tk)(a:Nat)(d:Int):Q:=afP (aW L) (iv a) (iv d)
abbrev pBd(L:List Tk)(a:Nat)(d:Int):Q:=afJ (aW L) (iv a) (iv d)
abbrev pAm(L:List Tk)(a:Nat)(d:Int):Q:=afB (aW L) (iv a) (iv d)
abbrev pBr(L:List Tk)(w:Int)(a:Nat)(d:Int):Q:=XP (iv w) (aW L) (iv a) (iv d)
abbrev pCs(L:List Tk)(w:Int)(a:Nat)(d:Int):Q:=XQ (iv w) (aW L) (iv a) (iv d)
def erD(L:List Tk)(d:Int)(se:Nat)(e w:Int)(z:Rs):Prop:=∃(b:Nat),z=(se,ps L b d [iv e,iv w])
section
variable{L:List Tk}(hW:F3 L)
include hW
theorem WC(a:Nat)(d:Int)(ha:a<L.length):nY L (akz (aW L) (iv a) (iv d)) (zY L d a) (YE L a d 0 Tk.cells) (erD L d 1):=by
 refine .of ?_;unfold zY;rw[h87a];simp[Nw hW ha];refine .may (fun ho=>?_) (fun ho=>?_)
 ·have hl:=aH hW ho
  have hw:=hW.w1 ha;simp[-Int.natCast_add,ho,hw];refine .takeK (by decide) (fun k5=>?_) (fun k5=>?_)
  ·have hl2:=hW.fin (a+1) (by omega)
   simp[-Int.natCast_add,cB hW hl,k5,Tk.cells];refine .take (by decide) (fun hc=>?_) (fun hc=>?_)
   ·exact .pure (aH hW hc) (by simp[-Int.natCast_add,aO hW hl2,hc,Tk.cells,k5]) ⟨by omega,rfl⟩
   ·exact⟨_,by simp[-Int.natCast_add,aO hW hl2,hc],a+1+1,rfl⟩
  ·exact⟨_,by simp[-Int.natCast_add,cB hW hl,k5],a+1,rfl⟩
 ·have hq:=acN (d:=d) hW ha (k:=1) (by decide) (by decide) eB
  simp[ho];cases hr:aV L 1 eB d a with
  |out=>trivial
  |err e w=>
   unfold aV at hr;by_cases k1:UR L 1 eB a=true
   ·rw[if_pos k1] at hr;cases hr
   ·rw[if_neg k1] at hr
    cases hr;have k1:(ai L a).kind≠1:=by unfold UR at k1;simpa using k1
    exact⟨_,by simp[cB hW ha,k1],a,rfl⟩
  |ok v b=>
   unfold aV at hr;by_cases k1:UR L 1 eB a=true
   ·rw[if_pos k1] at hr
    cases hr;have k1:(ai L a).kind=1:=by unfold UR at k1;simpa using k1
    exact⟨hW.fin a (by omega),_,by simp[-Int.natCast_add,cB hW ha,k1,Tk.cells],by omega,rfl⟩
   ·rw[if_neg k1] at hr;cases hr
theorem WG{n:Nat}(ih:Pa L (R5 L) eD (fG L n)):Pa L (pBd L) iP (Ap L (n+1)):=by
 intro a d h0 h1 ha;refine .weak (alU ev _ _ _) (.of ?_);rw[Ap,aqn];refine .bind (WC hW a d ha) (fun t b z hb g hz=>?_) (fun e w z g hz=>?_)
 ·obtain⟨hab,rfl⟩:=hz
  simp[g,Tk.cells];refine .take (by decide) (fun hc=>?_) (fun hc=>?_)
  ·have hl:=aH hW hc
   simp[-Int.natCast_add,aO hW hb,hc,Tk.cells];refine .callW (ih (b+1) d h0 h1 hl) (fun v b2 hb2 hab2 g2=>?_) (fun e w b2 d' g2=>?_)
   ·exact .pure hb2 (by simp[-Int.natCast_add,g2]) (.of (m:=[0,1]) (k:=0) (ys:=iP (.mk t.text v t.at_)) (by omega) rfl (by simp))
   ·exact⟨_,by simp[-Int.natCast_add,g2],.of (m:=[0,1]) (b:=b2) (d:=d') (k:=1) rfl⟩
  ·exact⟨_,by simp[aO hW hb,hc],.of (m:=[0,1]) (b:=b) (d:=d) (k:=1) rfl⟩
 ·obtain⟨b,rfl⟩:=hz
  exact⟨_,by simp[g],.of (m:=[0,1]) (b:=b) (d:=d) (k:=1) rfl⟩
def brG(L:List Tk)(n:Nat)(w:Int):GM Ex:=dP L BU (aS (iK 4 sUn 0 [] w)) (kg L 5 (ak (aV L 5 eB) fun o=>ak (aV L 7 BU) fun _=>aS (iK 3 o.text 0 [] w))
 (ak (fG L n) fun y=>dP L aci (ak (iQ L n) fun ty=>ak (aV L 7 BU) fun _=>aS (.mk 12 eB 0 ty [y] [] [] w)) (ak (aV L 7 BU) fun _=>aS y)))
theorem UF{n:Nat}(ih:Pa L (R5 L) eD (fG L n))(w:Int)(a:Nat)(d:Int)(h0:0≤d)(h1:d≤300)(ha:a<L.length)(hpos:0<a):nY L (pBr L w a d) (brG L n w d a) (YE L (a-1) d 0 eD) (Vx L 1):=by
 refine .weak (aix ev _ _ _ _) (.of ?_);unfold brG;rw[amd];simp[dH hW ha];refine .may (fun hc=>?_) (fun hc=>?_)
 ·exact .pure (aH hW hc) (by simp[-Int.natCast_add,hc]) (.of (m:=[0,1,0]) (k:=0) (ys:=[iv 4,sv sUn,iv 0,iv 0,sv eB,iv 0,nS,nS,nS,nS,iv w]) (by omega) rfl (by simp))
 ·simp[hc,d9 ha,Tk.cells]
  refine .kind (fun k5=>?_) (fun k5=>?_)
  ·have hl:=hW.fin a (by omega)
   simp[-Int.natCast_add,k5,ou hW ha,Tk.cells];refine .takeK (by decide) (fun _=>?_) (fun h=>absurd k5 h);refine .take (by decide) (fun hc=>?_) (fun hc=>?_)
   ·exact .pure (aH hW hc) (by simp[-Int.natCast_add,aO hW hl,hc,Tk.cells]) (.of (m:=[0,1,0]) (k:=0) (ys:=[iv 3,sv (ai L a).text,iv 0,iv 0,sv eB,iv 0,nS,nS,nS,nS,iv w]) (by omega) rfl (by simp))
   ·exact⟨_,by simp[-Int.natCast_add,aO hW hl,hc],.of (m:=[0,1,0]) (b:=a+1) (d:=d) (k:=1) rfl⟩
  ·simp[k5]
   refine .callW (ih a d h0 h1 ha) (fun v b hb hab g=>?_) (fun e w b d' g=>?_)
   ·simp[g]
    simp[dH hW hb];refine .may (fun hc=>?_) (fun hc=>?_)
    ·have hl:=aH hW hc
     simp[-Int.natCast_add,hc];refine .callW (ajP hW n (b+1) d h0 h1 hl) (fun ty b2 hb2 hab2 g2=>?_) (fun e w b2 d' g2=>?_)
     ·simp[-Int.natCast_add,g2]
      refine .take (by decide) (fun hc=>?_) (fun hc=>?_)
      ·exact .pure (aH hW hc) (by simp[-Int.natCast_add,aO hW hb2,hc,Tk.cells]) (.of (m:=[0,1,0]) (k:=2) (ys:=[iv 12,sv eB,iv 0,iv ty.kind,sv ty.name,iv ty.n,bH ty.kids,.rows [eD v],nS,nS,iv w]) (by omega) rfl (by simp[bG,lH,eP]))
      ·exact⟨_,by simp[-Int.natCast_add,aO hW hb2,hc],.of (m:=[0,1,0]) (b:=b2) (d:=d) (k:=1) rfl⟩
     ·exact⟨_,by simp[-Int.natCast_add,g2],.of (m:=[0,1,0]) (b:=b2) (d:=d') (k:=1) rfl⟩
    ·simp[hc]
     refine .take (by decide) (fun hc=>?_) (fun hc=>?_)
     ·exact .pure (aH hW hc) (by simp[-Int.natCast_add,aO hW hb,hc,Tk.cells]) (.of (m:=[0,1,0]) (k:=0) (ys:=eD v) (by omega) rfl (by simp))
     ·exact⟨_,by simp[-Int.natCast_add,aO hW hb,hc],.of (m:=[0,1,0]) (b:=b) (d:=d) (k:=1) rfl⟩
   ·exact⟨_,by simp[g],.of (m:=[0,1,0]) (b:=b) (d:=d') (k:=1) rfl⟩
end
set_option maxRecDepth 10000
abbrev zE:List PV:=[iv 0,sv eB,iv 0,iv 0,sv eB,iv 0,nS,nS,nS,nS,iv 0]
section
variable{L:List Tk}(hW:F3 L)
include hW
theorem aha{n:Nat}(ihE:∀m,m≤n→Pa L (R5 L) eD (fG L m))(KR:List (List PV))(w:Int):∀(m:Nat),m≤n→∀(l:List Al) (a:Nat) (d:Int),0≤d→d≤300→a<L.length→l.length≤a→nY L (KD (aW L) (iv a) (iv d) KR (l.map Al.cells) (iv w)) (ku L m l d a)
  (fun v b z=>a<b∧z=(0,ps L b d (iv 8::sv eB::iv 0::iv 0::sv eB::iv 0::nS :: .rows KR::dY v::nS::iv w::zE)))
  (fun e x z=>∃(b:Nat) (d':Int) (T:PV),z=(2,ps L b d' (iv 8::sv eB::iv 0::iv 0::sv eB::iv 0::nS :: .rows KR::T::nS::iv w::(zE++[iv e,iv x])))):=by
 intro m hm
 induction m with
 |zero=>intro l a d h0 h1 ha hl;rw[ku];trivial
 |succ m ih=>
  intro l a d h0 h1 ha hl;refine .of ?_;rw[ku,aan];refine .callW (ajQ hW m a d h0 h1 ha) (fun p b hb hab g=>?_) (fun e w b d' g=>?_)
  ·simp[g]
   refine .take (by decide) (fun hc=>?_) (fun hc=>?_)
   ·have hl2:=aH hW hc
    simp[-Int.natCast_add,aO hW hb,hc,Tk.cells];refine .callW (ihE m (by omega) (b+1) d h0 h1 hl2) (fun v b2 hb2 hab2 g2=>?_) (fun e w b2 d' g2=>?_)
    ·simp[-Int.natCast_add,g2]
     have hap:=fun k'=>aN (P:=PG) (d:=.fail) (k:=k') ajN (Gu l) (c:=alP p v) rfl (by simp) (by have:=hW.len;simp;omega) (by decide)
     have hml:(l++[Al.mk p v]).map Al.cells=l.map Al.cells++[alP p v]:=by rw[List.map_append,List.map_cons,List.map_nil,Al.cells_eq];rfl
     simp[hap];simp[dH hW hb2];refine .may (fun hs=>?_) (fun hs=>?_)
     ·have hl3:=aH hW hs
      have hn:=ih (by omega) (l++[Al.mk p v]) (b2+1) d h0 h1 hl3 (by simp;omega);rw[hml] at hn;simp[-Int.natCast_add,hs];cases hr:ku L m (l++[Al.mk p v]) d (b2+1) with
      |out=>trivial
      |err e x=>rw[hr] at hn;obtain⟨z,g1,b3,d',T,rfl⟩:=hn;exact⟨_,by simp[-Int.natCast_add,g1],b3,d',T,rfl⟩
      |ok v2 b3=>rw[hr] at hn;obtain⟨hb3,z,g1,h5,rfl⟩:=hn;exact⟨hb3,_,by simp[-Int.natCast_add,g1],by omega,rfl⟩
     ·exact .pure hb2 (by simp[hs,dY,←hml]) ⟨by omega,rfl⟩
    ·exact⟨_,by simp[-Int.natCast_add,g2],b2,d',.rows (l.map Al.cells),rfl⟩
   ·exact⟨_,by simp[aO hW hb,hc],b,d,.rows (l.map Al.cells),rfl⟩
  ·exact⟨_,by simp[g],b,d',.rows (l.map Al.cells),rfl⟩
theorem acf{n:Nat}(ihE:∀m,m≤n→Pa L (R5 L) eD (fG L m))(KR:List (List PV))(w:Int)(m:Nat)(hm:m≤n)(a:Nat)(d:Int)(h0:0≤d)(h1:d≤300)(ha:a<L.length):nY L (KE (aW L) (iv a) (iv d) KR (iv w)) (ku L m [] d a)
  (fun v b z=>a<b∧z=(0,ps L b d (iv 8::sv eB::iv 0::iv 0::sv eB::iv 0::nS :: .rows KR::dY v::nS::iv w::zE)))
  (fun e x z=>∃(b:Nat) (d':Int),z=(1,ps L b d' (iv 8::sv eB::iv 0::iv 0::sv eB::iv 0::nS :: .rows KR::nS::nS::iv w::(zE++[iv e,iv x])))∨∃(T:PV),z=(2,ps L b d' (iv 8::sv eB::iv 0::iv 0::sv eB::iv 0::nS :: .rows KR::T::nS::iv w::(zE++[iv e,iv x])))):=by
 cases m with
 |zero=>rw[ku];trivial
 |succ m=>
  refine .of ?_;rw[ku,aao];refine .callW (ajQ hW m a d h0 h1 ha) (fun p b hb hab g=>?_) (fun e w b d' g=>?_)
  ·simp[g]
   refine .take (by decide) (fun hc=>?_) (fun hc=>?_)
   ·have hl2:=aH hW hc
    simp[-Int.natCast_add,aO hW hb,hc,Tk.cells];refine .callW (ihE m (by omega) (b+1) d h0 h1 hl2) (fun v b2 hb2 hab2 g2=>?_) (fun e w b2 d' g2=>?_)
    ·simp[-Int.natCast_add,g2]
     have hml:[Al.mk p v].map Al.cells=[alP p v]:=by rw[List.map_cons,List.map_nil,Al.cells_eq];rfl
     simp[dH hW hb2];refine .may (fun hs=>?_) (fun hs=>?_)
     ·have hl3:=aH hW hs
      have hn:=aha hW ihE KR w m (by omega) [Al.mk p v] (b2+1) d h0 h1 hl3 (by simp);rw[hml] at hn;simp[-Int.natCast_add,hs];cases hr:ku L m [Al.mk p v] d (b2+1) with
      |out=>trivial
      |err e x=>rw[hr] at hn;obtain⟨z,g1,b3,d',T,rfl⟩:=hn;exact⟨_,by simp[-Int.natCast_add,g1],b3,d',.inr ⟨T,rfl⟩⟩
      |ok v2 b3=>rw[hr] at hn;obtain⟨hb3,z,g1,h5,rfl⟩:=hn;exact⟨hb3,_,by simp[-Int.natCast_add,g1],by omega,rfl⟩
     ·exact .pure hb2 (by simp[hs,afj]) ⟨by omega,rfl⟩
    ·exact⟨_,by simp[-Int.natCast_add,g2],b2,d',.inl rfl⟩
   ·exact⟨_,by simp[aO hW hb,hc],b,d,.inl rfl⟩
  ·exact⟨_,by simp[g],b,d',.inl rfl⟩
def csG(L:List Tk)(n:Nat)(w:Int):GM Ex:=ak (fG L n) fun x=>ak (aV L 6 sOf) fun _=>ak (ku L n []) fun l=>ak (aV L 6 ach) fun _=>aS (.mk 8 eB 0 ML [x] l [] w)
theorem ab4{n:Nat}(ihE:∀m,m≤n→Pa L (R5 L) eD (fG L m))(w:Int)(a:Nat)(d:Int)(h0:0≤d)(h1:d≤300)(ha:a<L.length):nY L (pCs L w a d) (csG L n w d a) (YE L a d 0 eD) (Vx L 1):=by
 refine .weak (aiy ev _ _ _ _) (.of ?_);unfold csG;rw[ame];refine .callW (ihE n (Nat.le_refl _) a d h0 h1 ha) (fun v b hb hab g=>?_) (fun e w b d' g=>?_)
 ·simp[g]
  refine .take (by decide) (fun hc=>?_) (fun hc=>?_)
  ·have hl:=aH hW hc
   simp[-Int.natCast_add,aO hW hb,hc,Tk.cells];refine .bind (acf hW ihE [eD v] w n (Nat.le_refl _) (b+1) d h0 h1 hl) (fun l b2 z hb2 g2 hz=>?_) (fun e w z g2 hz=>?_)
   ·obtain⟨hab2,rfl⟩:=hz
    simp[-Int.natCast_add,g2];refine .take (by decide) (fun hs=>?_) (fun hs=>?_)
    ·exact .pure (aH hW hs) (by simp[-Int.natCast_add,aO hW hb2,hs,Tk.cells]) (.of (m:=[0,1,0]) (k:=2) (ys:=[iv 8,sv eB,iv 0,iv 0,sv eB,iv 0,nS,.rows [eD v],dY l,nS,iv w]) (by omega) rfl (by simp[bG,lH,eP]))
    ·exact⟨_,by simp[-Int.natCast_add,aO hW hb2,hs],.of (m:=[0,1,0]) (b:=b2) (d:=d) (k:=1) rfl⟩
   ·obtain⟨b2,d',rfl|⟨T,rfl⟩⟩:=hz
    ·exact⟨_,by simp[-Int.natCast_add,g2],.of (m:=[0,1,0]) (b:=b2) (d:=d') (k:=1) rfl⟩
    ·exact⟨_,by simp[-Int.natCast_add,g2],.of (m:=[0,1,0]) (b:=b2) (d:=d') (k:=1) rfl⟩
  ·exact⟨_,by simp[aO hW hb,hc],.of (m:=[0,1,0]) (b:=b) (d:=d) (k:=1) rfl⟩
 ·exact⟨_,by simp[g],.of (m:=[0,1,0]) (b:=b) (d:=d') (k:=1) rfl⟩
theorem alE{a:Nat}(h:lF L Kj a=true):(ai L a).kind=6∧(ai L a).text=Kj:=by
 unfold lF at h;rw[Bool.and_eq_true,decide_eq_true_eq,decide_eq_true_eq] at h;have ht:=hW.top a;have h7:(ai L a).kind≠7:=fun h7=>hW.k7 a h7 h.2
 exact⟨by omega,h.2⟩
omit hW in
theorem adk{a:Nat}{x:ByteArray}(h:lF L x a=false)(k6:(ai L a).kind=6):¬(ai L a).text=x:=fun h2=>by unfold lF at h;simp[k6,h2] at h
theorem ag6{n:Nat}(ihE:∀m,m≤n→Pa L (R5 L) eD (fG L m)):Pa L (pAm L) eD (iW L (n+1)):=by
 intro a d h0 h1 ha;refine .weak (alK ev _ _ _) (.of ?_);rw[iW,ap7];simp[-Int.natCast_add,ou hW ha,Tk.cells];refine .next (.if' (fun k1=>?_) (fun k1=>.if' (fun k2=>?_) (fun k2=>.if' (fun k3=>?_) (fun k3=>.if' (fun k4=>?_) (fun k4=>?_)))))
 ·exact .up (.pure (hW.fin a (by omega)) (by simp[-Int.natCast_add,k1]) (.of (m:=[0,1]) (k:=0) (ys:=[iv 3,sv (ai L a).text,iv 0,iv 0,sv eB,iv 0,nS,nS,nS,nS,iv (ai L a).at_]) (by omega) rfl (by simp)))
 ·exact .up (.pure (hW.fin a (by omega)) (by simp[-Int.natCast_add,k2]) (.of (m:=[0,1]) (k:=0) (ys:=[iv 4,sv (ai L a).text,iv 0,iv 0,sv eB,iv 0,nS,nS,nS,nS,iv (ai L a).at_]) (by omega) rfl (by simp)))
 ·exact .up (.pure (hW.fin a (by omega)) (by simp[-Int.natCast_add,k3]) (.of (m:=[0,1]) (k:=0) (ys:=[iv 1,sv eB,iv (ai L a).n,iv 0,sv eB,iv 0,nS,nS,nS,nS,iv (ai L a).at_]) (by omega) rfl (by simp)))
 ·exact .up (.pure (hW.fin a (by omega)) (by simp[-Int.natCast_add,k4]) (.of (m:=[0,1]) (k:=0) (ys:=[iv 2,sv (ai L a).text,iv 0,iv 0,sv eB,iv 0,nS,nS,nS,nS,iv (ai L a).at_]) (by omega) rfl (by simp)))
 ·refine .may (fun hc=>?_) (fun hc=>?_)
  ·obtain⟨k6,hx⟩:=alE hW hc
   have hl:=aH hW hc;simp[-Int.natCast_add,k6,hx];have hn:=ab4 hW ihE (ai L a).at_ (a+1) d h0 h1 hl;show nX L (csG L n (ai L a).at_ d (a+1)) _ _ _;cases hr:csG L n (ai L a).at_ d (a+1) with
   |out=>trivial
   |err e w=>rw[hr] at hn;obtain⟨z,g,b,d',rfl⟩:=hn;exact⟨_,by simp[-Int.natCast_add,g],.of (m:=[0,1]) (b:=b) (d:=d') (k:=1) rfl⟩
   |ok v b=>rw[hr] at hn;obtain⟨hb,z,g,hab,rfl⟩:=hn;exact⟨hb,_,by simp[-Int.natCast_add,g],.of (m:=[0,1]) (k:=0) (ys:=eD v) (by omega) rfl (by simp)⟩
  ·refine .take (by decide) (fun ho=>?_) (fun ho=>?_)
   ·obtain⟨k7,hx⟩:=Zg hW (.inl rfl) ho
    have hl:=aH hW ho;simp[-Int.natCast_add,k7,hx];have hn:=UF hW (ihE n (Nat.le_refl _)) (ai L a).at_ (a+1) d h0 h1 hl (by omega);show nX L (brG L n (ai L a).at_ d (a+1)) _ _ _;cases hr:brG L n (ai L a).at_ d (a+1) with
    |out=>trivial
    |err e w=>rw[hr] at hn;obtain⟨z,g,b,d',rfl⟩:=hn;exact⟨_,by simp[-Int.natCast_add,g],.of (m:=[0,1]) (b:=b) (d:=d') (k:=1) rfl⟩
    |ok v b=>rw[hr] at hn;obtain⟨hb,z,g,hab,rfl⟩:=hn;exact⟨hb,_,by simp[-Int.natCast_add,g],.of (m:=[0,1]) (k:=0) (ys:=eD v) (by omega) rfl (by simp)⟩
   ·refine⟨_,?_,.of (m:=[0,1]) (b:=a+1) (d:=d) (k:=1) rfl⟩
    by_cases k6:(ai L a).kind=6
    ·simp[-Int.natCast_add,k6,adk hc k6,nO hW]
    ·by_cases k7:(ai L a).kind=7
     ·simp[-Int.natCast_add,k7,NY ho k7,nO hW]
     ·simp[-Int.natCast_add,k1,k2,k3,k4,k6,k7,nO hW]
end
set_option maxRecDepth 10000
abbrev pLa(L:List Tk)(w:Int)(a:Nat)(d:Int):Q:=afD (iv w) (aW L) (iv a) (iv d)
def vO(w:Int):List Tk→List (ByteArray×Int)
 |[]=>[]
 |t::r=>(t.text,w)::r.map fun t=>(t.text,t.at_)
theorem YK(w:Int)(N:List Tk)(t:Tk)(h:N≠[]):vO w (N++[t])=vO w N++[(t.text,t.at_)]:=by
 cases N with
 |nil=>exact absurd rfl h
 |cons x r=>simp[vO]
def Lj(N:List Tk):Nat→Ex→Ex
 |0,y=>y
 |j+1,y=>Lj N j (iK 6 (opAt N j).text 0 [y] (opAt N j).at_)
def Ll(N:List Tk)(e:Ex):Ex:=N.foldr (fun t e=>iK 6 t.text 0 [e] t.at_) e
theorem Sq(N:List Tk):∀(j:Nat) (y:Ex),j≤N.length→Lj N j y=Ll (N.take j) y
 |0,y,_=>by simp[Lj,Ll]
 |j+1,y,h=>by
  rw[Lj,Sq N j _ (by omega)];have:N.take (j+1)=N.take j++[opAt N j]:=by
   rw[List.take_add_one];unfold opAt;rw[List.getElem?_eq_getElem (by omega)];rfl
  rw[this];simp[Ll]
theorem MN(r:List Tk)(e:Ex):uO (r.map fun t=>(t.text,t.at_)) e=Ll r e:=by
 induction r with
 |nil=>rfl
 |cons t r ih=>simp only[uO,Ll,List.map_cons,List.foldr_cons] at ih ⊢;rw[ih]
theorem Uo(w:Int)(t:Tk)(r:List Tk)(e:Ex):uO (vO w (t::r)) e=iK 6 t.text 0 [Ll r e] w:=by
 rw[←MN];rfl
theorem uk{N:List Tk}{j:Nat}(h:j<N.length):N[j]? = some (opAt N j):=by unfold opAt;rw[List.getElem?_eq_getElem h];rfl
section
variable{L:List Tk}
theorem Za(N:List Tk)(w:Int)(hN:N.length≤2000000):∀(j:Nat) (x:Ex) (nm:ByteArray) (K:List (List PV)) (p:Int),j≤N.length→Raw 11 K [x.cells]→∃(x':Ex) (nm':ByteArray) (K':List (List PV)) (p':Int),Lj N j (iK 6 nm 0 [x] p)=iK 6 nm' 0 [x'] p'∧Raw 11 K' [x'.cells]∧
  ev (PN (iv ((j:Int)-1)) (N.map Tk.cells) (iv w) (sv nm) K (iv p))=some (1,iv 6::sv nm'::iv 0::iv 0::sv eB::iv 0::nS :: .rows K'::nS::nS::iv p'::(zE++[iv w,.rows (N.map Tk.cells)])):=by
 intro j
 induction j with
 |zero=>
  intro x nm K p hj hr;refine⟨x,nm,K,p,rfl,hr,ax.of ?_⟩;rw[Sz];simp
 |succ j ih=>
  intro x nm K p hj hr;have hr2:Raw 11 [[iv 6,sv nm,iv 0,iv 0,sv eB,iv 0,nS,.rows K,nS,nS,iv p]] [(iK 6 nm 0 [x] p).cells]:=.one (by rw[Ex.cells_eq];simp[bG,hr.wd,exs]) rfl (by simp[hr.ns']);obtain⟨x',nm',K',p',e1,e2,e3⟩:=ih (iK 6 nm 0 [x] p) (opAt N j).text _ (opAt N j).at_ (by omega) hr2;refine⟨x',nm',K',p',by rw[Lj,e1],e2,ax.of ?_⟩;rw[Sz];have e0:((j+1:Nat):Int)-1=(j:Int):=by omega
  have hw:IntKind.i64.wrap ((j:Int)-1)=(j:Int)-1:=aJ (by omega);rw[e0];have hx:∀(d:aK) (k:AV→aK),fB Tryz.prog d 66 (.pv (.rows (N.map Tk.cells))) (.pv (.lit (.int .i64 (j:Int)))) k=k (.cptr [iv (opAt N j).kind,sv (opAt N j).text,iv (opAt N j).n,iv (opAt N j).at_]):=fun d k=>dV (uk (show j<N.length by omega))
  simp[hx,hw];simp[e3]
variable(hW:F3 L)
include hW
def JY(L:List Tk)(k:Nat)(l:List (ByteArray×Int)):GM Ex:=ak (aV L 7 BV) fun _=>ak (fG L k) fun e=>aS (uO l e)
theorem Y9(w d:Int):∀(m:Nat) (N:List Tk) (a:Nat),N≠[]→a<L.length→N.length≤a→gG L m (vO w N) d a=.out∨∃(R:List Tk) (b k:Nat),k<m∧a≤b∧b<L.length∧(N++R).length≤b∧gG L m (vO w N) d a=JY L k (vO w (N++R)) d b∧
  ev (PS (N.map Tk.cells) (iv w) (aW L) (iv a) (iv d))=some (1,aW L::iv b::iv d::(zE++[.rows ((N++R).map Tk.cells),iv w])):=by
 intro m
 induction m with
 |zero=>intro N a _ _ _;exact .inl (by rw[gG];rfl)
 |succ m ih=>
  intro N a hN ha hl;rw[gG.eq_2];unfold kg;by_cases k1:(ai L a).kind=1
  ·have hb:=hW.fin a (by omega)
   have e1:(if(ai L a).kind=1 then(mR L fun t=>Av (gG L m (vO w N++[(t.text,t.at_)]))) d a else JY L m (vO w N) d a)=gG L m (vO w (N++[ai L a])) d (a+1):=by rw[if_pos k1,YK w N _ hN];rfl
   have e2:=ih (N++[ai L a]) (a+1) (by simp) hb (by simp;omega);rcases e2 with e2|⟨R,b,k,c1,c2,c3,c4,c5,c6⟩
   ·exact .inl (e1.trans e2)
   ·refine .inr ⟨ai L a::R,b,k,by omega,by omega,c3,by simpa using c4,(e1.trans c5).trans (by simp),ax.of ?_⟩
    rw[SA];have hap:=fun k'=>yh (k:=k') N (ai L a) (by have:=hW.len;omega)
    rw[List.map_append,List.map_cons,List.map_nil] at c6;simp[-Int.natCast_add,d9 ha,Tk.cells,k1,ou hW ha];simp[-Int.natCast_add,Tk.cells,k1] at hap c6;simp[-Int.natCast_add,hap,c6]
  ·exact .inr ⟨[],a,m,by omega,Nat.le_refl _,ha,by simpa using hl,by rw[if_neg k1,List.append_nil];rfl,ax.of (by
    rw[SA];simp[d9 ha,Tk.cells,k1])⟩
theorem Zb(w d:Int)(t:Tk):∀(m:Nat) (a:Nat),a<L.length→1≤a→gG L m [(t.text,w)] d a=.out∨∃(R:List Tk) (b k:Nat),k<m∧a≤b∧b<L.length∧([t]++R).length≤b∧gG L m [(t.text,w)] d a=JY L k (vO w ([t]++R)) d b∧
  ev (PU [t.cells] (iv w) (aW L) (iv a) (iv d))=some (match R with|[]=>0|_::_=>1,aW L::iv b::iv d::(zE++[.rows (([t]++R).map Tk.cells),iv w])):=by
 intro m a ha hl;cases m with
 |zero=>exact .inl (by rw[gG];rfl)
 |succ m=>
  rw[gG.eq_2];unfold kg;by_cases k1:(ai L a).kind=1
  ·have hb:=hW.fin a (by omega)
   have e1:(if(ai L a).kind=1 then(mR L fun t2=>Av (gG L m ([(t.text,w)]++[(t2.text,t2.at_)]))) d a else JY L m (vO w [t]) d a)=gG L m (vO w ([t]++[ai L a])) d (a+1):=by rw[if_pos k1];rfl
   have e2:=Y9 hW w d m ([t]++[ai L a]) (a+1) (by simp) hb (by simp;omega);rcases e2 with e2|⟨R,b,k,c1,c2,c3,c4,c5,c6⟩
   ·exact .inl (e1.trans e2)
   ·refine .inr ⟨ai L a::R,b,k,by omega,by omega,c3,by simpa using c4,(e1.trans c5).trans (by simp),ax.of ?_⟩
    rw[SB];have hap:=fun k'=>yh (k:=k') [t] (ai L a) (by simp)
    simp[-Int.natCast_add,d9 ha,Tk.cells,k1,ou hW ha];simp[-Int.natCast_add,Tk.cells,k1] at hap c6;simp[-Int.natCast_add,hap,c6]
  ·exact .inr ⟨[],a,m,by omega,Nat.le_refl _,ha,by simpa using hl,by rw[if_neg k1,List.append_nil];rfl,ax.of (by
    rw[SB];simp[d9 ha,Tk.cells,k1])⟩
omit hW in
theorem adi(w:Int)(t:Tk)(R:List Tk)(hN:(t::R).length≤2000000)(e:Ex):∃(x':Ex) (nm':ByteArray) (K':List (List PV)) (p':Int),iK 6 nm' 0 [x'] w=uO (vO w (t::R)) e∧Raw 11 K' [x'.cells]∧
  ev (PO (iv (R.length:Int)) ((t::R).map Tk.cells) (iv w) (iv e.kind) (sv e.name) (iv e.n) (iv e.t.kind) (sv e.t.name) (iv e.t.n) (bH e.t.kids) (exs e.kids) (dY e.alts) (bn e.binds) (iv e.at_))=some (1,iv 6::sv nm'::iv 0::iv 0::sv eB::iv 0::nS :: .rows K'::nS::nS::iv p'::(zE++[iv w,.rows ((t::R).map Tk.cells)])):=by
 have hj:R.length<(t::R).length:=by simp
 obtain⟨x',nm',K',p',e1,e2,e3⟩:=Za (t::R) w hN R.length e (opAt (t::R) R.length).text [eD e] (opAt (t::R) R.length).at_ (by omega) (.one (by rw[Ex.cells_eq];simp) rfl (by simp));refine⟨x',nm',K',p',?_,e2,ax.of ?_⟩
 ·have h1:Lj (t::R) (R.length+1) e=iK 6 nm' 0 [x'] p':=by rw[Lj,e1]
  rw[Sq _ _ _ (by simp),show R.length+1=(t::R).length by simp,List.take_length] at h1;have h2:Ll (t::R) e=iK 6 t.text 0 [Ll R e] t.at_:=rfl;rw[h2] at h1;rw[Uo];simp only[iK,Ex.mk.injEq,List.cons.injEq] at h1 ⊢;obtain⟨_,hn,_,_,⟨hx,_⟩,_⟩:=h1;simp[hn,hx]
 ·rw[adL]
  have hx:∀(d:aK) (k:AV→aK),fB Tryz.prog d 66 (.pv (.rows ((t::R).map Tk.cells))) (.pv (.lit (.int .i64 (R.length:Int)))) k=k (.cptr [iv (opAt (t::R) R.length).kind,sv (opAt (t::R) R.length).text,iv (opAt (t::R) R.length).n,iv (opAt (t::R) R.length).at_]):=fun d k=>dV (uk hj)
  have hw:IntKind.i64.wrap ((R.length:Int)-1)=(R.length:Int)-1:=aJ (by simp at hN;omega);generalize hG:(t::R).map Tk.cells=G at *;simp[hx,hw];simp[e3]
theorem WE{n:Nat}(ihE:∀m,m≤n→Pa L (R5 L) eD (fG L m))(w:Int)(a:Nat)(d:Int)(h0:0≤d)(h1:d≤300)(ha:a<L.length):nY L (pLa L w a d) (gV L (n+1) w d a) (YE L a d 0 eD) (Vx L 1):=by
 refine .weak (alM ev _ _ _ _) (.of ?_);rw[gV.eq_2,ap9];refine .takeK (by decide) (fun k1=>?_) (fun k1=>?_)
 ·have hl:=hW.fin a (by omega)
  simp[-Int.natCast_add,cB hW ha,k1,Tk.cells];generalize ht:ai L a=t at *;rcases Zb hW w d t n (a+1) hl (by omega) with e0|⟨R,b,k,c1,c2,c3,c4,c5,c6⟩
  ·rw[e0];trivial
  ·rw[c5]
   unfold JY;have hlen:([t]++R).length≤2000000:=by have:=hW.len;omega
   simp only[Tk.cells,k1] at c6;refine .take (by decide) (fun hc=>?_) (fun hc=>?_)
   ·have hl3:=aH hW hc
    refine .callW (ihE k (by omega) (b+1) d h0 h1 hl3) (fun v b2 hb2 hab2 g2=>?_) (fun e x b2 d' g2=>?_)
    ·obtain⟨x',nm',K',p',z1,z2,z3⟩:=adi w t R hlen v
     refine .pure hb2 ?_ (.of (m:=[0,0,0,0,0,0,0,0,0,0,0,0,0,0,0,0,1]) (k:=4) (ys:=[iv 6,sv nm',iv 0,iv 0,sv eB,iv 0,nS,.rows K',nS,nS,iv w]) (by omega) rfl (by rw[show uO (vO w ([t]++R)) v=iK 6 nm' 0 [x'] w from z1.symm];simp[z2.wd,exs]));cases R with
     |nil=>
      simp[-Int.natCast_add,Tk.cells,k1] at c6 z3;simp[-Int.natCast_add,c6,aO hW c3,hc,Tk.cells];simp[-Int.natCast_add,g2];simp[z3]
     |cons t2 R=>
      simp only[List.singleton_append] at c6;have hx:∀(d:aK) (k:AV→aK),gm Tryz.prog d 66 (.pv (.rows ((t::t2::R).map Tk.cells))) k=k (.pv (iv ((t::t2::R).length:Int))):=fun d k=>YX _
      have hw:IntKind.i64.wrap (((t::t2::R).length:Int)-1)=((t2::R).length:Int):=by rw[aJ (by simp at hlen ⊢;omega)];simp
      generalize hG:(t::t2::R).map Tk.cells=G at *;generalize hn1:((t::t2::R).length:Int)=n1 at *;generalize hn2:((t2::R).length:Int)=n2 at *;simp[-Int.natCast_add,c6,aO hW c3,hc,Tk.cells];simp[-Int.natCast_add,g2];simp[hx,hw];simp[z3]
    ·refine⟨_,?_,.of (m:=[0,0,0,0,0,0,0,0,0,0,0,0,0,0,0,0,1]) (b:=b2) (d:=d') (k:=16) rfl⟩
     cases R with
     |nil=>
      simp[-Int.natCast_add,Tk.cells,k1] at c6;simp[-Int.natCast_add,c6,aO hW c3,hc,Tk.cells];simp[-Int.natCast_add,g2]
     |cons t2 R=>
      simp only[List.singleton_append] at c6;generalize hG:(t::t2::R).map Tk.cells=G at *;simp[-Int.natCast_add,c6,aO hW c3,hc,Tk.cells];simp[-Int.natCast_add,g2]
   ·refine⟨_,?_,.of (m:=[0,0,0,0,0,0,0,0,0,0,0,0,0,0,0,0,1]) (b:=b) (d:=d) (k:=16) rfl⟩
    cases R with
    |nil=>
     simp[-Int.natCast_add,Tk.cells,k1] at c6;simp[-Int.natCast_add,c6,aO hW c3,hc,Tk.cells]
    |cons t2 R=>
     simp only[List.singleton_append] at c6;generalize hG:(t::t2::R).map Tk.cells=G at *;simp[-Int.natCast_add,c6,aO hW c3,hc,Tk.cells]
 ·exact⟨_,by simp[cB hW ha,k1],.of (m:=[0,0,0,0,0,0,0,0,0,0,0,0,0,0,0,0,1]) (b:=a) (d:=d) (k:=16) rfl⟩
end
set_option maxRecDepth 10000
abbrev pLt(L:List Tk)(a:Nat)(d:Int):Q:=afC (aW L) (iv a) (iv d)
abbrev pOp(L:List Tk)(a:Nat)(d:Int):Q:=afG (aW L) (iv a) (iv d)
section
variable{L:List Tk}(hW:F3 L)
include hW
theorem ajW{n:Nat}(ihE:∀m,m≤n→Pa L (R5 L) eD (fG L m)):∀m,m≤n+1→Pa L (pBd L) iP (Ap L m)
 |0,_=>fun a d _ _ _=>by rw[Ap];trivial
 |m+1,hm=>WG hW (ihE m (by omega))
theorem acd{n:Nat}(ihB:∀m,m≤n→Pa L (pBd L) iP (Ap L m))(w:Int):∀(m:Nat),m≤n→∀(l:List Bd) (a:Nat) (d:Int),0≤d→d≤300→a<L.length→l.length≤a→nY L (PE (aW L) (iv a) (iv d) (l.map Bd.cells) (iv w)) (eX L m l d a)
  (fun v b z=>a≤b∧z=(3,ps L b d (iv 7::sv eB::iv 1::iv 0::sv eB::iv 0::nS::nS::nS::bn v::iv w::zE)))
  (fun e x z=>∃(b:Nat) (d':Int) (T:PV),z=(2,ps L b d' (iv 7::sv eB::iv 1::iv 0::sv eB::iv 0::nS::nS::nS::T::iv w::(zE++[iv e,iv x])))):=by
 intro m hm
 induction m with
 |zero=>intro l a d h0 h1 ha hl;rw[eX];trivial
 |succ m ih=>
  intro l a d h0 h1 ha hl;refine .of ?_;rw[eX.eq_2,adI];simp[dH hW ha];refine .may (fun hs=>?_) (fun hs=>?_)
  ·have hl3:=aH hW hs
   simp[-Int.natCast_add,hs];refine .callW (ihB m (by omega) (a+1) d h0 h1 hl3) (fun v b hb hab g=>?_) (fun e x b d' g=>?_)
   ·have hap:=fun k'=>aN (P:=PG) (d:=.fail) (k:=k') wS (kR l) (c:=iP v) rfl (by simp) (by have:=hW.len;simp;omega) (by decide)
    have hml:(l++[v]).map Bd.cells=l.map Bd.cells++[iP v]:=by rw[List.map_append,List.map_cons,List.map_nil,Bd.cells_eq]
    simp[-Int.natCast_add,g];simp[hap];have hn:=ih (by omega) (l++[v]) b d h0 h1 hb (by simp;omega);rw[hml] at hn;cases hr:eX L m (l++[v]) d b with
    |out=>trivial
    |err e x=>rw[hr] at hn;obtain⟨z,g1,b3,d',T,rfl⟩:=hn;exact⟨_,by simp[g1],b3,d',T,rfl⟩
    |ok v2 b3=>rw[hr] at hn;obtain⟨hb3,z,g1,h5,rfl⟩:=hn;exact⟨hb3,_,by simp[g1],by omega,rfl⟩
   ·exact⟨_,by simp[-Int.natCast_add,g],b,d',.rows (l.map Bd.cells),rfl⟩
  ·exact .pure ha (by simp[hs,bn]) ⟨Nat.le_refl _,rfl⟩
theorem WH{n:Nat}(ihB:∀m,m≤n→Pa L (pBd L) iP (Ap L m))(w:Int)(m:Nat)(hm:m≤n)(v0:Bd)(a:Nat)(d:Int)(h0:0≤d)(h1:d≤300)(ha:a<L.length):nY L (PK (aW L) (iv a) (iv d) [iP v0] (iv w)) (eX L m [v0] d a)
  (fun v b z=>a≤b∧(v=[v0]∧z=(1,ps L b d (iv 7::sv eB::iv 1::iv 0::sv eB::iv 0::nS::nS::nS :: .rows [iP v0]::iv w::zE))∨z=(3,ps L b d (iv 7::sv eB::iv 1::iv 0::sv eB::iv 0::nS::nS::nS::bn v::iv w::zE))))
  (fun e x z=>∃(b:Nat) (d':Int),z=(0,ps L b d' (iv 7::sv eB::iv 1::iv 0::sv eB::iv 0::nS::nS::nS :: .rows [iP v0]::iv w::(zE++[iv e,iv x])))∨∃(T:PV),z=(2,ps L b d' (iv 7::sv eB::iv 1::iv 0::sv eB::iv 0::nS::nS::nS::T::iv w::(zE++[iv e,iv x])))):=by
 cases m with
 |zero=>rw[eX];trivial
 |succ m=>
  refine .of ?_;rw[eX.eq_2,adK];simp[dH hW ha];refine .may (fun hs=>?_) (fun hs=>?_)
  ·have hl3:=aH hW hs
   simp[-Int.natCast_add,hs];refine .callW (ihB m (by omega) (a+1) d h0 h1 hl3) (fun v b hb hab g=>?_) (fun e x b d' g=>?_)
   ·have hr:Raw 13 [iP v0] ([v0].map Bd.cells):=.one (by rw[Bd.cells_eq];simp) rfl (by simp)
    have hap:=fun k'=>aN (P:=PG) (d:=.fail) (k:=k') wS hr (c:=iP v) rfl (by simp) (by simp) (by decide)
    have hml:[v0,v].map Bd.cells=[iP v0,iP v]:=by rw[List.map_cons,List.map_cons,List.map_nil,Bd.cells_eq,Bd.cells_eq]
    simp[-Int.natCast_add,g];simp at hap;simp[hap];have hn:=acd hW ihB w m (by omega) [v0,v] b d h0 h1 hb (by simp;omega);rw[hml] at hn;cases hr:eX L m [v0,v] d b with
    |out=>trivial
    |err e x=>rw[hr] at hn;obtain⟨z,g1,b3,d',T,rfl⟩:=hn;exact⟨_,by simp[g1],b3,d',.inr ⟨T,rfl⟩⟩
    |ok v2 b3=>rw[hr] at hn;obtain⟨hb3,z,g1,h5,rfl⟩:=hn;exact⟨hb3,_,by simp[g1],by omega,.inr rfl⟩
   ·exact⟨_,by simp[-Int.natCast_add,g],b,d',.inl rfl⟩
  ·exact .pure ha (by simp[hs]) ⟨Nat.le_refl _,.inl ⟨rfl,rfl⟩⟩
theorem ace{n:Nat}(ihB:∀m,m≤n→Pa L (pBd L) iP (Ap L m))(w:Int):∀(m:Nat),m≤n→∀(l:List Bd) (a:Nat) (d:Int),0≤d→d≤300→a<L.length→l.length≤a→nY L (PD (aW L) (iv a) (iv d) (l.map Bd.cells) (iv w)) (eX L m l d a)
  (fun v b z=>a≤b∧z=(3,ps L b d (iv 7::sv eB::iv 0::iv 0::sv eB::iv 0::nS::nS::nS::bn v::iv w::zE)))
  (fun e x z=>∃(b:Nat) (d':Int) (T:PV),z=(2,ps L b d' (iv 7::sv eB::iv 0::iv 0::sv eB::iv 0::nS::nS::nS::T::iv w::(zE++[iv e,iv x])))):=by
 intro m hm
 induction m with
 |zero=>intro l a d h0 h1 ha hl;rw[eX];trivial
 |succ m ih=>
  intro l a d h0 h1 ha hl;refine .of ?_;rw[eX.eq_2,adH];simp[dH hW ha];refine .may (fun hs=>?_) (fun hs=>?_)
  ·have hl3:=aH hW hs
   simp[-Int.natCast_add,hs];refine .callW (ihB m (by omega) (a+1) d h0 h1 hl3) (fun v b hb hab g=>?_) (fun e x b d' g=>?_)
   ·have hap:=fun k'=>aN (P:=PG) (d:=.fail) (k:=k') wS (kR l) (c:=iP v) rfl (by simp) (by have:=hW.len;simp;omega) (by decide)
    have hml:(l++[v]).map Bd.cells=l.map Bd.cells++[iP v]:=by rw[List.map_append,List.map_cons,List.map_nil,Bd.cells_eq]
    simp[-Int.natCast_add,g];simp[hap];have hn:=ih (by omega) (l++[v]) b d h0 h1 hb (by simp;omega);rw[hml] at hn;cases hr:eX L m (l++[v]) d b with
    |out=>trivial
    |err e x=>rw[hr] at hn;obtain⟨z,g1,b3,d',T,rfl⟩:=hn;exact⟨_,by simp[g1],b3,d',T,rfl⟩
    |ok v2 b3=>rw[hr] at hn;obtain⟨hb3,z,g1,h5,rfl⟩:=hn;exact⟨hb3,_,by simp[g1],by omega,rfl⟩
   ·exact⟨_,by simp[-Int.natCast_add,g],b,d',.rows (l.map Bd.cells),rfl⟩
  ·exact .pure ha (by simp[hs,bn]) ⟨Nat.le_refl _,rfl⟩
theorem WI{n:Nat}(ihB:∀m,m≤n→Pa L (pBd L) iP (Ap L m))(w:Int)(m:Nat)(hm:m≤n)(v0:Bd)(a:Nat)(d:Int)(h0:0≤d)(h1:d≤300)(ha:a<L.length):nY L (PI (aW L) (iv a) (iv d) [iP v0] (iv w)) (eX L m [v0] d a)
  (fun v b z=>a≤b∧(v=[v0]∧z=(1,ps L b d (iv 7::sv eB::iv 0::iv 0::sv eB::iv 0::nS::nS::nS :: .rows [iP v0]::iv w::zE))∨z=(3,ps L b d (iv 7::sv eB::iv 0::iv 0::sv eB::iv 0::nS::nS::nS::bn v::iv w::zE))))
  (fun e x z=>∃(b:Nat) (d':Int),z=(0,ps L b d' (iv 7::sv eB::iv 0::iv 0::sv eB::iv 0::nS::nS::nS :: .rows [iP v0]::iv w::(zE++[iv e,iv x])))∨∃(T:PV),z=(2,ps L b d' (iv 7::sv eB::iv 0::iv 0::sv eB::iv 0::nS::nS::nS::T::iv w::(zE++[iv e,iv x])))):=by
 cases m with
 |zero=>rw[eX];trivial
 |succ m=>
  refine .of ?_;rw[eX.eq_2,adJ];simp[dH hW ha];refine .may (fun hs=>?_) (fun hs=>?_)
  ·have hl3:=aH hW hs
   simp[-Int.natCast_add,hs];refine .callW (ihB m (by omega) (a+1) d h0 h1 hl3) (fun v b hb hab g=>?_) (fun e x b d' g=>?_)
   ·have hr:Raw 13 [iP v0] ([v0].map Bd.cells):=.one (by rw[Bd.cells_eq];simp) rfl (by simp)
    have hap:=fun k'=>aN (P:=PG) (d:=.fail) (k:=k') wS hr (c:=iP v) rfl (by simp) (by simp) (by decide)
    have hml:[v0,v].map Bd.cells=[iP v0,iP v]:=by rw[List.map_cons,List.map_cons,List.map_nil,Bd.cells_eq,Bd.cells_eq]
    simp[-Int.natCast_add,g];simp at hap;simp[hap];have hn:=ace hW ihB w m (by omega) [v0,v] b d h0 h1 hb (by simp;omega);rw[hml] at hn;cases hr:eX L m [v0,v] d b with
    |out=>trivial
    |err e x=>rw[hr] at hn;obtain⟨z,g1,b3,d',T,rfl⟩:=hn;exact⟨_,by simp[g1],b3,d',.inr ⟨T,rfl⟩⟩
    |ok v2 b3=>rw[hr] at hn;obtain⟨hb3,z,g1,h5,rfl⟩:=hn;exact⟨hb3,_,by simp[g1],by omega,.inr rfl⟩
   ·exact⟨_,by simp[-Int.natCast_add,g],b,d',.inl rfl⟩
  ·exact .pure ha (by simp[hs]) ⟨Nat.le_refl _,.inl ⟨rfl,rfl⟩⟩
theorem ajT{n:Nat}(ihE:∀m,m≤n→Pa L (R5 L) eD (fG L m))(a:Nat)(d:Int)(h0:0≤d)(h1:d≤300)(ha:a<L.length)(hl:lF L acg a=true):nY L (pLt L a d) (dP L WJ (qI L (n+1) 1 (ai L a).at_) (qI L (n+1) 0 (ai L a).at_) d (a+1)) (YE L a d 0 eD) (Vx L 1):=by
 have ihB:=ajW hW ihE;refine .weak (alL ev _ _ _) (.of ?_);have hl1:=aH hW hl;rw[qI.eq_2,qI.eq_2,ap8];simp[-Int.natCast_add,ou hW ha,Tk.cells];simp[-Int.natCast_add,dH hW hl1];refine .may (fun hr=>?_) (fun hr=>?_)
 ·have hl2:=aH hW hr
  simp[-Int.natCast_add,hr];refine .callW (ihB n (by omega) (a+1+1) d h0 h1 hl2) (fun v b hb hab g=>?_) (fun e x b d' g=>?_)
  ·simp[-Int.natCast_add,g]
   refine .bind (WH hW ihB (ai L a).at_ n (by omega) v b d h0 h1 hb) (fun l b2 z hb2 g2 hz=>?_) (fun e x z g2 hz=>?_)
   ·obtain⟨hab2,hz⟩:=hz
    rcases hz with⟨rfl,rfl⟩|rfl
    ·simp[g2]
     refine .take (by decide) (fun hi=>?_) (fun hi=>?_)
     ·have hl3:=aH hW hi
      simp[-Int.natCast_add,aO hW hb2,hi,Tk.cells];refine .callW (ihE n (by omega) (b2+1) d h0 h1 hl3) (fun e b3 hb3 hab3 g3=>?_) (fun e x b3 d' g3=>?_)
      ·exact .pure hb3 (by simp[-Int.natCast_add,g3]) (.of (m:=[0,1]) (k:=0) (ys:=[iv 7,sv eB,iv 1,iv 0,sv eB,iv 0,nS,.rows [eD e],nS,.rows [iP v],iv (ai L a).at_]) (by omega) rfl (by simp[bG,lH,eP,Bw]))
      ·exact⟨_,by simp[-Int.natCast_add,g3],.of (m:=[0,1]) (b:=b3) (d:=d') (k:=1) rfl⟩
     ·exact⟨_,by simp[aO hW hb2,hi],.of (m:=[0,1]) (b:=b2) (d:=d) (k:=1) rfl⟩
    ·simp[g2]
     refine .take (by decide) (fun hi=>?_) (fun hi=>?_)
     ·have hl3:=aH hW hi
      simp[-Int.natCast_add,aO hW hb2,hi,Tk.cells];refine .callW (ihE n (by omega) (b2+1) d h0 h1 hl3) (fun e b3 hb3 hab3 g3=>?_) (fun e x b3 d' g3=>?_)
      ·exact .pure hb3 (by simp[-Int.natCast_add,g3]) (.of (m:=[0,1]) (k:=0) (ys:=[iv 7,sv eB,iv 1,iv 0,sv eB,iv 0,nS,.rows [eD e],nS,bn l,iv (ai L a).at_]) (by omega) rfl (by simp[bG,lH,eP]))
      ·exact⟨_,by simp[-Int.natCast_add,g3],.of (m:=[0,1]) (b:=b3) (d:=d') (k:=1) rfl⟩
     ·exact⟨_,by simp[aO hW hb2,hi],.of (m:=[0,1]) (b:=b2) (d:=d) (k:=1) rfl⟩
   ·obtain⟨b2,d',rfl|⟨T,rfl⟩⟩:=hz
    ·exact⟨_,by simp[g2],.of (m:=[0,1]) (b:=b2) (d:=d') (k:=1) rfl⟩
    ·exact⟨_,by simp[g2],.of (m:=[0,1]) (b:=b2) (d:=d') (k:=1) rfl⟩
  ·exact⟨_,by simp[-Int.natCast_add,g],.of (m:=[0,1]) (b:=b) (d:=d') (k:=1) rfl⟩
 ·have hl2:=hl1
  simp[-Int.natCast_add,hr];refine .callW (ihB n (by omega) (a+1) d h0 h1 hl2) (fun v b hb hab g=>?_) (fun e x b d' g=>?_)
  ·simp[-Int.natCast_add,g]
   refine .bind (WI hW ihB (ai L a).at_ n (by omega) v b d h0 h1 hb) (fun l b2 z hb2 g2 hz=>?_) (fun e x z g2 hz=>?_)
   ·obtain⟨hab2,hz⟩:=hz
    rcases hz with⟨rfl,rfl⟩|rfl
    ·simp[g2]
     refine .take (by decide) (fun hi=>?_) (fun hi=>?_)
     ·have hl3:=aH hW hi
      simp[-Int.natCast_add,aO hW hb2,hi,Tk.cells];refine .callW (ihE n (by omega) (b2+1) d h0 h1 hl3) (fun e b3 hb3 hab3 g3=>?_) (fun e x b3 d' g3=>?_)
      ·exact .pure hb3 (by simp[-Int.natCast_add,g3]) (.of (m:=[0,1]) (k:=0) (ys:=[iv 7,sv eB,iv 0,iv 0,sv eB,iv 0,nS,.rows [eD e],nS,.rows [iP v],iv (ai L a).at_]) (by omega) rfl (by simp[bG,lH,eP,Bw]))
      ·exact⟨_,by simp[-Int.natCast_add,g3],.of (m:=[0,1]) (b:=b3) (d:=d') (k:=1) rfl⟩
     ·exact⟨_,by simp[aO hW hb2,hi],.of (m:=[0,1]) (b:=b2) (d:=d) (k:=1) rfl⟩
    ·simp[g2]
     refine .take (by decide) (fun hi=>?_) (fun hi=>?_)
     ·have hl3:=aH hW hi
      simp[-Int.natCast_add,aO hW hb2,hi,Tk.cells];refine .callW (ihE n (by omega) (b2+1) d h0 h1 hl3) (fun e b3 hb3 hab3 g3=>?_) (fun e x b3 d' g3=>?_)
      ·exact .pure hb3 (by simp[-Int.natCast_add,g3]) (.of (m:=[0,1]) (k:=0) (ys:=[iv 7,sv eB,iv 0,iv 0,sv eB,iv 0,nS,.rows [eD e],nS,bn l,iv (ai L a).at_]) (by omega) rfl (by simp[bG,lH,eP]))
      ·exact⟨_,by simp[-Int.natCast_add,g3],.of (m:=[0,1]) (b:=b3) (d:=d') (k:=1) rfl⟩
     ·exact⟨_,by simp[aO hW hb2,hi],.of (m:=[0,1]) (b:=b2) (d:=d) (k:=1) rfl⟩
   ·obtain⟨b2,d',rfl|⟨T,rfl⟩⟩:=hz
    ·exact⟨_,by simp[g2],.of (m:=[0,1]) (b:=b2) (d:=d') (k:=1) rfl⟩
    ·exact⟨_,by simp[g2],.of (m:=[0,1]) (b:=b2) (d:=d') (k:=1) rfl⟩
  ·exact⟨_,by simp[-Int.natCast_add,g],.of (m:=[0,1]) (b:=b) (d:=d') (k:=1) rfl⟩
end
set_option maxRecDepth 10000
def af2(L:List Tk)(t:Tk)(a:Nat)(d:Int)(v:Ex)(b:Nat)(z:Rs):Prop:=a≤b∧∃(ks':List Ex) (B':List (List PV)),v=iK 5 eB 0 ks' t.at_∧Raw 11 B' (ks'.map Ex.cells)∧z=(3,ps L b d (iv 5::sv eB::iv 0::iv 0::sv eB::iv 0::nS :: .rows B'::nS::nS::iv t.at_::iv t.kind::sv t.text::iv t.n::iv t.at_::zE))
def alo(L:List Tk)(t:Tk)(v0:Ex)(a:Nat)(d:Int)(v:Ex)(b:Nat)(z:Rs):Prop:=a≤b∧(v=v0∧z=(1,ps L b d (eD v0++iv t.kind::sv t.text::iv t.n::iv t.at_::zE))∨af2 L t a d v b z)
section
variable{L:List Tk}(hW:F3 L)
include hW
theorem ag8{n:Nat}(ihA:∀m,m≤n→Pa L (pAm L) eD (iW L m))(t:Tk):∀(m:Nat),m≤n→∀(ks:List Ex) (B:List (List PV)) (a:Nat) (d:Int),Raw 11 B (ks.map Ex.cells)→0≤d→d≤300→a<L.length→nY L (P7 (aW L) (iv a) (iv d) B (iv t.at_) (iv t.kind) (sv t.text) (iv t.n) (iv t.at_)) (jy L m t.at_ (iK 5 eB 0 ks t.at_) d a)
  (af2 L t a d)
  (fun e x z=>∃(b:Nat) (d':Int) (T:PV),z=(2,ps L b d' (iv 5::sv eB::iv 0::iv 0::sv eB::iv 0::nS::T::nS::nS::iv t.at_::iv t.kind::sv t.text::iv t.n::iv t.at_::(zE++[iv e,iv x])))):=by
 intro m hm
 induction m with
 |zero=>intro ks B a d hr h0 h1 ha;rw[jy];trivial
 |succ m ih=>
  intro ks B a d hr h0 h1 ha;refine .of ?_;rw[jy.eq_2,adP];simp[RZ hW ha];refine .st (fun hs=>?_) (fun hs=>?_)
  ·simp[hs]
   refine .callW (ihA m (by omega) a d h0 h1 ha) (fun v b hb hab g=>?_) (fun e x b d' g=>?_)
   ·simp[g]
    have hr2:Raw 11 [[iv 5,sv eB,iv 0,iv 0,sv eB,iv 0,nS,.rows B,nS,nS,iv t.at_],eD v] ([iK 5 eB 0 ks t.at_,v].map Ex.cells):=EM.raw 5 eB 0 ks t.at_ _ (.inr ⟨B,rfl,hr⟩) (.plain v);have hn:=ih (by omega) [iK 5 eB 0 ks t.at_,v] _ b d hr2 h0 h1 hb;cases hr:jy L m t.at_ (iK 5 eB 0 [iK 5 eB 0 ks t.at_,v] t.at_) d b with
    |out=>trivial
    |err e x=>rw[hr] at hn;obtain⟨z,g1,b3,d',T,rfl⟩:=hn;exact⟨_,by simp[g1],b3,d',T,rfl⟩
    |ok v2 b3=>rw[hr] at hn;obtain⟨hb3,z,g1,h5,ks',B',h6,h7,rfl⟩:=hn;exact⟨hb3,_,by simp[g1],by omega,ks',B',h6,h7,rfl⟩
   ·exact⟨_,by simp[g],b,d',.rows B,rfl⟩
  ·exact .pure ha (by simp[hs]) ⟨Nat.le_refl _,ks,B,rfl,hr,rfl⟩
theorem ab9{n:Nat}(ihA:∀m,m≤n→Pa L (pAm L) eD (iW L m))(t:Tk)(m:Nat)(hm:m≤n)(v0:Ex)(a:Nat)(d:Int)(h0:0≤d)(h1:d≤300)(ha:a<L.length):nY L (P8 (aW L) (iv a) (iv d) (iv v0.kind) (sv v0.name) (iv v0.n) (iv v0.t.kind) (sv v0.t.name) (iv v0.t.n) (bH v0.t.kids) (exs v0.kids) (dY v0.alts) (bn v0.binds) (iv v0.at_) (iv t.kind) (sv t.text) (iv t.n) (iv t.at_)) (jy L m t.at_ v0 d a)
  (alo L t v0 a d)
  (fun e x z=>∃(b:Nat) (d':Int),z=(0,ps L b d' (eD v0++iv t.kind::sv t.text::iv t.n::iv t.at_::(zE++[iv e,iv x])))∨∃(T:PV),z=(2,ps L b d' (iv 5::sv eB::iv 0::iv 0::sv eB::iv 0::nS::T::nS::nS::iv t.at_::iv t.kind::sv t.text::iv t.n::iv t.at_::(zE++[iv e,iv x])))):=by
 cases m with
 |zero=>rw[jy];trivial
 |succ m=>
  refine .of ?_;rw[jy.eq_2,adQ];simp[RZ hW ha];refine .st (fun hs=>?_) (fun hs=>?_)
  ·simp[hs]
   refine .callW (ihA m (by omega) a d h0 h1 ha) (fun v b hb hab g=>?_) (fun e x b d' g=>?_)
   ·simp[g]
    have hn:=ag8 hW ihA t m (by omega) [v0,v] _ b d (EM.two (.plain v0) (.plain v)) h0 h1 hb;cases hr:jy L m t.at_ (iK 5 eB 0 [v0,v] t.at_) d b with
    |out=>trivial
    |err e x=>rw[hr] at hn;obtain⟨z,g1,b3,d',T,rfl⟩:=hn;exact⟨_,by simp[g1],b3,d',.inr ⟨T,rfl⟩⟩
    |ok v2 b3=>rw[hr] at hn;obtain⟨hb3,z,g1,h5,ks',B',h6,h7,rfl⟩:=hn;exact⟨hb3,_,by simp[g1],by omega,.inr ⟨by omega,ks',B',h6,h7,rfl⟩⟩
   ·exact⟨_,by simp[g],b,d',.inl rfl⟩
  ·exact .pure ha (by simp[hs]) ⟨Nat.le_refl _,.inl ⟨rfl,rfl⟩⟩
theorem UE{n:Nat}(ihE:∀m,m≤n→Pa L (R5 L) eD (fG L m))(ihA:∀m,m≤n→Pa L (pAm L) eD (iW L m))(hLa:∀m,m≤n→∀(w:Int) (a:Nat) (d:Int),0≤d→d≤300→a<L.length→nY L (pLa L w a d) (gV L m w d a) (YE L a d 0 eD) (Vx L 1))
  (hLt:∀m,m≤n→∀(a:Nat) (d:Int),0≤d→d≤300→a<L.length→lF L acg a=true→nY L (pLt L a d) (dP L WJ (qI L m 1 (ai L a).at_) (qI L m 0 (ai L a).at_) d (a+1)) (YE L a d 0 eD) (Vx L 1)):Pa L (pOp L) eD (fE L (n+1)):=by
 intro a d h0 h1 ha;refine .weak (alQ ev _ _ _) (.of ?_);rw[fE.eq_2,aqj];simp[d9 ha,Tk.cells];simp[Nw hW ha];have hw:=hW.w1 ha;refine .next (.may (fun hb=>?_) (fun hb=>.may (fun hl=>?_) (fun hl=>.may (fun hi=>?_) (fun hi=>?_))))
 ·have hl1:=aH hW hb
  simp[-Int.natCast_add,hb,hw];have hn:=hLa n (Nat.le_refl _) (ai L a).at_ (a+1) d h0 h1 hl1;cases hr:gV L n (ai L a).at_ d (a+1) with
  |out=>trivial
  |err e x=>rw[hr] at hn;obtain⟨z,g,b,d',rfl⟩:=hn;exact⟨_,by simp[-Int.natCast_add,g],.of (m:=[0,1,0,0,0,0,0,0,0,0,0,0,0,0,0,0,0]) (b:=b) (d:=d') (k:=1) rfl⟩
  |ok v b=>rw[hr] at hn;obtain⟨hb,z,g,hab,rfl⟩:=hn;exact⟨hb,_,by simp[-Int.natCast_add,g],.of (m:=[0,1,0,0,0,0,0,0,0,0,0,0,0,0,0,0,0]) (k:=0) (ys:=eD v) (by omega) rfl (by simp)⟩
 ·simp[hb,hl]
  have hn:=hLt n (Nat.le_refl _) a d h0 h1 ha hl;cases hr:dP L WJ (qI L n 1 (ai L a).at_) (qI L n 0 (ai L a).at_) d (a+1) with
  |out=>trivial
  |err e x=>rw[hr] at hn;obtain⟨z,g,b,d',rfl⟩:=hn;exact⟨_,by simp[g],.of (m:=[0,1,0,0,0,0,0,0,0,0,0,0,0,0,0,0,0]) (b:=b) (d:=d') (k:=1) rfl⟩
  |ok v b=>rw[hr] at hn;obtain⟨hb,z,g,hab,rfl⟩:=hn;exact⟨hb,_,by simp[g],.of (m:=[0,1,0,0,0,0,0,0,0,0,0,0,0,0,0,0,0]) (k:=0) (ys:=eD v) (by omega) rfl (by simp)⟩
 ·have hl1:=aH hW hi
  simp[-Int.natCast_add,hb,hl,hi,hw];have hE:=ihE n (Nat.le_refl _);refine .callW (hE (a+1) d h0 h1 hl1) (fun v1 b1 hb1 hab1 g1=>?_) (fun e x b1 d' g1=>?_)
  ·simp[-Int.natCast_add,g1]
   refine .take (by decide) (fun hc=>?_) (fun hc=>?_)
   ·have hl2:=aH hW hc
    simp[-Int.natCast_add,aO hW hb1,hc,Tk.cells];refine .callW (hE (b1+1) d h0 h1 hl2) (fun v2 b2 hb2 hab2 g2=>?_) (fun e x b2 d' g2=>?_)
    ·simp[-Int.natCast_add,g2]
     refine .take (by decide) (fun hd=>?_) (fun hd=>?_)
     ·have hl3:=aH hW hd
      simp[-Int.natCast_add,aO hW hb2,hd,Tk.cells];refine .callW (hE (b2+1) d h0 h1 hl3) (fun v3 b3 hb3 hab3 g3=>?_) (fun e x b3 d' g3=>?_)
      ·exact .pure hb3 (by simp[-Int.natCast_add,g3]) (.of (m:=[0,1,0,0,0,0,0,0,0,0,0,0,0,0,0,0,0]) (k:=2) (ys:=[iv 9,sv eB,iv 0,iv 0,sv eB,iv 0,nS,.rows [eD v1,eD v2,eD v3],nS,nS,iv (ai L a).at_]) (by omega) rfl (by simp[bG,iB,j3,FU]))
      ·exact⟨_,by simp[-Int.natCast_add,g3],.of (m:=[0,1,0,0,0,0,0,0,0,0,0,0,0,0,0,0,0]) (b:=b3) (d:=d') (k:=1) rfl⟩
     ·exact⟨_,by simp[-Int.natCast_add,aO hW hb2,hd],.of (m:=[0,1,0,0,0,0,0,0,0,0,0,0,0,0,0,0,0]) (b:=b2) (d:=d) (k:=1) rfl⟩
    ·exact⟨_,by simp[-Int.natCast_add,g2],.of (m:=[0,1,0,0,0,0,0,0,0,0,0,0,0,0,0,0,0]) (b:=b2) (d:=d') (k:=1) rfl⟩
   ·exact⟨_,by simp[-Int.natCast_add,aO hW hb1,hc],.of (m:=[0,1,0,0,0,0,0,0,0,0,0,0,0,0,0,0,0]) (b:=b1) (d:=d) (k:=1) rfl⟩
  ·exact⟨_,by simp[-Int.natCast_add,g1],.of (m:=[0,1,0,0,0,0,0,0,0,0,0,0,0,0,0,0,0]) (b:=b1) (d:=d') (k:=1) rfl⟩
 ·simp[hb,hl,hi]
  refine .callW (ihA n (Nat.le_refl _) a d h0 h1 ha) (fun v b hb2 hab g=>?_) (fun e x b d' g=>?_)
  ·simp[g]
   have hn:=ab9 hW ihA (ai L a) n (Nat.le_refl _) v b d h0 h1 hb2;cases hr:jy L n (ai L a).at_ v d b with
   |out=>trivial
   |err e x=>
    rw[hr] at hn;obtain⟨z,g1,b3,d',rfl|⟨T,rfl⟩⟩:=hn
    ·exact⟨_,by simp[g1],.of (m:=[0,1,0,0,0,0,0,0,0,0,0,0,0,0,0,0,0]) (b:=b3) (d:=d') (k:=1) rfl⟩
    ·exact⟨_,by simp[g1],.of (m:=[0,1,0,0,0,0,0,0,0,0,0,0,0,0,0,0,0]) (b:=b3) (d:=d') (k:=1) rfl⟩
   |ok v2 b3=>
    rw[hr] at hn;obtain⟨hb3,z,g1,h5,hz⟩:=hn;rcases hz with⟨rfl,rfl⟩|⟨_,ks',B',rfl,h7,rfl⟩
    ·exact⟨hb3,_,by simp[g1],.of (m:=[0,1,0,0,0,0,0,0,0,0,0,0,0,0,0,0,0]) (k:=0) (ys:=eD v2) (by omega) rfl (by simp)⟩
    ·exact⟨hb3,_,by simp[g1],.of (m:=[0,1,0,0,0,0,0,0,0,0,0,0,0,0,0,0,0]) (k:=2) (ys:=[iv 5,sv eB,iv 0,iv 0,sv eB,iv 0,nS,.rows B',nS,nS,iv (ai L a).at_]) (by omega) rfl (by simp[h7.wd,exs])⟩
  ·exact⟨_,by simp[g],.of (m:=[0,1,0,0,0,0,0,0,0,0,0,0,0,0,0,0,0]) (b:=b) (d:=d') (k:=1) rfl⟩
end
set_option maxRecDepth 10000
theorem acM(x:ByteArray):ev (q99 (sv x))=some (0,[iv (jl x:Nat),iv (bO (jl x):Nat)]):=ax.of (by
 rw[h99];unfold jl;by_cases h0:x=⟨#[58,61]⟩
 ·simp[h0,bO]
 by_cases h1:x=⟨#[124,124]⟩
 ·simp[h1,bO]
 by_cases h2:x=⟨#[38,38]⟩
 ·simp[h2,bO]
 by_cases h3:x=⟨#[61,61]⟩
 ·simp[h3,bO]
 by_cases h4:x=⟨#[47,61]⟩
 ·simp[h4,bO]
 by_cases h5:x=⟨#[60]⟩
 ·simp[h5,bO]
 by_cases h6:x=⟨#[60,61]⟩
 ·simp[h6,bO]
 by_cases h7:x=⟨#[62]⟩
 ·simp[h7,bO]
 by_cases h8:x=⟨#[62,61]⟩
 ·simp[h8,bO]
 by_cases h9:x=⟨#[58,58]⟩
 ·simp[h9,bO]
 by_cases h10:x=⟨#[94]⟩
 ·simp[h10,bO]
 by_cases h11:x=⟨#[43]⟩
 ·simp[h11,bO]
 by_cases h12:x=⟨#[45]⟩
 ·simp[h12,bO]
 by_cases h13:x=⟨#[42]⟩
 ·simp[h13,bO]
 by_cases EY:x=⟨#[47]⟩
 ·simp[EY,bO]
 by_cases h15:x=⟨#[37]⟩
 ·simp[h15,bO]
 simp[h0,h1,h2,h3,h4,h5,h6,h7,h8,h9,h10,h11,h12,h13,EY,h15,bO])
structure Aq(e:Ex)(c:List PV):Prop where
 w:dD c=e.cells
 l:c.length=11
 n:kH c
theorem Aq.two{x y:Ex}{c e:List PV}(hx:Aq x c)(hy:Aq y e):Raw 11 [c,e] ([x,y].map Ex.cells):=(Raw.one hx.w hx.l hx.n).app hy.w hy.l hy.n
theorem Aq.mk'(k:Int)(s:ByteArray)(n:Int)(ks:List Ex)(a:Int){B:List (List PV)}(hB:Raw 11 B (ks.map Ex.cells)):Aq (iK k s n ks a) [iv k,sv s,iv n,iv 0,sv eB,iv 0,nS,.rows B,nS,nS,iv a]:=
 ⟨by rw[Ex.cells_eq];simp only[tL,JR,O3,OZ,O1,hB.wd];rfl,rfl,by have:=hB.ns';simp[this]⟩
theorem Aq.var(k:Int)(s:ByteArray)(n:Int)(a:Int):Aq (iK k s n [] a) [iv k,sv s,iv n,iv 0,sv eB,iv 0,nS,nS,nS,nS,iv a]:=⟨by rw[Ex.cells_eq];simp,rfl,by simp⟩
theorem Aq.plain(e:Ex):Aq e (eD e):=⟨by rw[Ex.cells_eq];simp,rfl,by simp⟩
theorem acO(t:Tk){x y:Ex}{x0 x1 x2 x3 x4 x5 x6 x7 x8 x9 x10 y0 y1 y2 y3 y4 y5 y6 y7 y8 y9 y10:PV}(hx:Aq x [x0,x1,x2,x3,x4,x5,x6,x7,x8,x9,x10])(hy:Aq y [y0,y1,y2,y3,y4,y5,y6,y7,y8,y9,y10]):∃zs,ev (q74 (iv t.kind) (sv t.text) (iv t.n) (iv t.at_) x0 x1 x2 x3 x4 x5 x6 x7 x8 x9 x10 y0 y1 y2 y3 y4 y5 y6 y7 y8 y9 y10)=some (0,zs)∧Aq (opE t x y) zs:=by
 unfold opE;by_cases h1:t.text=⟨#[38,38]⟩
 ·rw[if_pos h1]
  exact⟨_,ax.of (by rw[h74];simp[h1]),.mk' 10 eB 0 [x,y] t.at_ (hx.two hy)⟩
 ·rw[if_neg h1]
  by_cases h2:t.text=⟨#[124,124]⟩
  ·rw[if_pos h2]
   exact⟨_,ax.of (by rw[h74];simp[h2]),.mk' 11 eB 0 [x,y] t.at_ (hx.two hy)⟩
  ·rw[if_neg h2]
   exact⟨_,ax.of (by rw[h74];simp[h1,h2]),.mk' 5 eB 0 _ t.at_ ((Aq.mk' 5 eB 0 _ t.at_ ((Aq.var 3 t.text 0 t.at_).two hx)).two hy)⟩
def r1{α:Type}(e:α→PV)(l:List α):PV:=.rows (l.map fun x=>[e x])
theorem zR{α:Type}{e:α→PV}(he:∀x,NS (e x))(l:List α):NS (r1 e l):=.rows _ fun c hc p hp=>by
 obtain⟨x,hx,rfl⟩:=List.mem_map.1 hc;rw[List.mem_singleton.1 hp];exact he x
section
variable{β:Type}{d:β}{α:Type}{e:α→PV}{t:TypeId}{b:Nat}
theorem Sl{k:AV→β}(ht:iY PG t 1 b)(l:List α):gm PG d t (.pv (r1 e l)) k=k (.pv (iv l.length)):=by
 rw[r1,eO (fun _=>iL ht _) (bq _),List.length_map]
theorem Sw{k:AV→β}(ht:iY PG t 1 b)(he:∀x,NS (e x)){l:List α}{i:Nat}{x:α}(h:l[i]? = some x):fB PG d t (.pv (r1 e l)) (.pv (.lit (.int .i64 (i:Int)))) k=k (.cptr [e x]):=
 gW (fun _=>jG ht (by rw[List.getElem?_map,h];rfl) rfl) (.cptr _ fun p hp=>by rw[List.mem_singleton.1 hp];exact he x)
theorem afe{k:PV→β}(ht:iY PG t 1 b)(he:∀x,NS (e x))(hb:b≤100){l:List α}{x:α}(h:l.length≤1000000000):lu PG d t (.pv (r1 e l)) (.pv (.rows [[e x]])) k=k (r1 e (l++[x])):=by
 refine Bz (fun w=>?_) (zR he _);have hbb:(l.length+1)*b≤140737488355328:=Nat.le_trans (Nat.mul_le_mul (show l.length+1≤1000000001 by omega) hb) (by decide);rw[r1,Jz ht (es:=l.map fun x=>[e x]) (es':=[[e x]]) rfl rfl (by simp) (by simp) (by simp;omega) (by simpa using hbb)];rw[r1,List.map_append];exact Iff.rfl
theorem afd{k:PV→β}(ht:iY PG t 1 b)(he:∀x,NS (e x))(hb:b≤100){x:α}:lu PG d t (.pv (.lit (.slice none 0 0))) (.pv (.rows [[e x]])) k=k (r1 e [x]):=by
 refine Bz (fun w=>?_) (zR he _);rw[Jz ht (es:=[]) (es':=[[e x]]) rfl rfl (by simp) (by simp) (by simp) (by simp;omega)];exact Iff.rfl
theorem abW{k:PV→β}(he:∀x,NS (e x)){l:List α}{i:Nat}{x:α}(h:i<l.length):Gl d (r1 e l) (.lit (.int .i64 (i:Int))) 0 [e x] k=k (r1 e (l.set i x)):=by
 have hg:(l.map fun x=>[e x]).getD i []=[e l[i]]:=by
  rw[List.getD_eq_getElem?_getD,List.getElem?_map,List.getElem?_eq_getElem h];rfl
 have hs:setAt [e l[i]] 0 [e x]=[e x]:=rfl;have hset:(l.map fun x=>[e x]).set i [e x]=(l.set i x).map fun x=>[e x]:=by rw[List.map_set]
 refine kP (lC (fun w=>?_) (zR he _));constructor
 ·rintro⟨es,n,kd,g1,g2,g3,g4,g5,rfl,_⟩
  cases g1;cases g2;rw[Int.toNat_natCast,hg,hs,hset];rfl
 ·rintro rfl
  refine⟨_,_,_,rfl,rfl,by omega,by rw[Int.toNat_natCast,List.length_map];exact h,?_,?_,CP (zR he _)⟩
  ·rw[Int.toNat_natCast,hg];exact Nat.le_refl 1
  ·rw[Int.toNat_natCast,hg,hs,hset];rfl
theorem aid{k:PV→β}(ht:iY PG t 1 b)(he:∀x,NS (e x))(hb:b≤100){z:α}{el:TypeId}(h1:PG.underlying t=some (.slice el))(h2:mG PG el=some 1)(hby:iO PG el=some b)(h3:jZ PG el=some [.pv (e z)]){n:Nat}(h:n≤1000000):mkK PG d t (.pv (iv n)) k=k (r1 e (List.replicate n z)):=by
 have hr:(List.replicate n z).map (fun x=>[e x])=List.replicate n [e z]:=List.map_replicate;refine kP (lC (fun w=>?_) (zR he _));constructor
 ·rintro⟨e',sz,by_,zc,z',m,g1,g2,g3,g4,g5,g6,g7,g8,g9,g10,rfl,_⟩
  rw[h1] at g1;cases g1;rw[h3] at g4;cases g4;have hz:z'=[e z]:=by
   have:zK [AV.pv (e z)]=some [e z]:=rfl;rw[this] at g5;exact(Option.some.inj g5).symm
  have hm:m=n:=by
   have:rM (.pv (iv n))=some (n:Int):=rfl;rw[this] at g8;have:=Option.some.inj g8;omega
  rw[hz,hm,r1,hr]
 ·rintro rfl
  refine⟨el,1,b,[.pv (e z)],[e z],n,h1,h2,hby,h3,rfl,Nat.one_pos,rfl,rfl,?_,?_,by rw[r1,hr],CP (zR he _)⟩
  ·exact Nat.le_trans h (by decide)
  ·exact Nat.le_trans (Nat.mul_le_mul h hb) (by decide)
end
theorem abS{β:Type}{d:β}{α:Type}{e:α→PV}{t:TypeId}{b:Nat}{k:AV→β}(ht:iY PG t 1 b)(he:∀x,NS (e x)){l:List α}{i:Nat}(h:i≤l.length):EO PG d t (.pv (r1 e l)) (some (.pv (.lit (.int .i64 0)))) (some (.pv (.lit (.int .i64 (i:Int))))) k=k (.pv (r1 e (l.take i))):=
 Pf (Pe (by
  have:=agR ht (es:=l.map fun x=>[e x]) (m:=i) (by simpa using h);rw[←List.map_take] at this;intro ρ lo m h1 h2;cases lo with
  |none=>exact h1.elim
  |some z=>exact(zM h1).trans (this ρ none m trivial h2))) (.pv _ (zR he _))
def eN(n:Nat):PV:=iv n
theorem FV(x:Nat):NS (eN x):=.lit _
def fT(l:List Nat):PV:=r1 eN l
theorem EP:iY PG 47 1 8:=iY.of (by kernel_rfl)
section
variable{β:Type}{d:β}{k:AV→β}{kp:PV→β}
@[simp] theorem ac4(l:List Nat):gm PG d 47 (.pv (fT l)) k=k (.pv (iv l.length)):=Sl EP l
theorem iT{l:List Nat}{i x:Nat}(h:l[i]? = some x):fB PG d 47 (.pv (fT l)) (.pv (.lit (.int .i64 (i:Int)))) k=k (.cptr [iv x]):=Sw EP FV h
theorem Gj{l:List Nat}{i x:Nat}(h:i<l.length):Gl d (fT l) (.lit (.int .i64 (i:Int))) 0 [.lit (.int .i64 (x:Int))] kp=kp (fT (l.set i x)):=abW FV h
theorem oU{l:List Nat}{x:Nat}(h:l.length≤1000000000):lu PG d 47 (.pv (fT l)) (.pv (.rows [[.lit (.int .i64 (x:Int))]])) kp=kp (fT (l++[x])):=afe EP FV (by decide) h
theorem JA{x:Nat}:lu PG d 47 (.pv (.lit (.slice none 0 0))) (.pv (.rows [[.lit (.int .i64 (x:Int))]])) kp=kp (fT [x]):=afd EP FV (by decide)
theorem wJ{l:List Nat}{i:Nat}(h:i≤l.length):EO PG d 47 (.pv (fT l)) (some (.pv (.lit (.int .i64 0)))) (some (.pv (.lit (.int .i64 (i:Int))))) k=k (.pv (fT (l.take i))):=abS EP FV h
theorem YL{n:Nat}(h:n≤1000000):mkK PG d 47 (.pv (iv n)) kp=kp (fT (List.replicate n 0)):=aid (z:=0) EP FV (by decide) (el:=3) (by kernel_rfl) (by kernel_rfl) (by kernel_rfl) (by kernel_rfl) h
end
section
variable(V:Nat→Nat)
def iJ(f:Nat):Nat→Nat
 |0=>f
 |k+1=>if V (f+1+k)<V (iJ f k)∨V (f+1+k)=V (iJ f k)∧bO (V (iJ f k))=1 then f+1+k else iJ f k
theorem FQ(f to:Nat):∀(n k:Nat),to-(f+1+k)≤n→f+1+k≤to→jw V to n (f+1+k) (iJ V f k)=iJ V f (to-f-1)
 |0,k,h1,h2=>by
  have:to-f-1=k:=by omega
  rw[jw,this]
 |n+1,k,h1,h2=>by
  rw[jw];by_cases h:f+1+k<to
  ·rw[if_pos h]
   have:=FQ f to n (k+1) (by omega) (by omega);rw[iJ] at this;exact this
  ·rw[if_neg h]
   have:to-f-1=k:=by omega
   rw[this]
theorem NI(f:Nat):∀k,f≤iJ V f k∧iJ V f k≤f+k
 |0=>by simp[iJ]
 |k+1=>by
  have:=NI f k;rw[iJ];split<;>omega
theorem ny{f to:Nat}(h:f<to):f≤iJ V f (to-f-1)∧iJ V f (to-f-1)<to:=by
 have:=NI V f (to-f-1);omega
theorem adh{f to:Nat}(h:f<to):jw V to to (f+1) f=iJ V f (to-f-1):=FQ V f to to 0 (by omega) (by omega)
theorem H8(f:Nat):∀k j,iJ V f k<j→j≤f+k→V (iJ V f k)<V j∨V (iJ V f k)=V j∧bO (V j)≠1
 |0,j,h1,h2=>by simp[iJ] at h1;omega
 |k+1,j,h1,h2=>by
  rw[iJ] at h1 ⊢;split at h1
  ·omega
  ·rename_i hc
   rw[if_neg hc];by_cases hj:j=f+1+k
   ·subst hj
    rcases Nat.lt_trichotomy (V (iJ V f k)) (V (f+1+k)) with h|h|h
    ·exact .inl h
    ·refine .inr ⟨h,fun h3=>hc (.inr ⟨h.symm,by rw[h];exact h3⟩)⟩
    ·exact absurd (.inl h) hc
   ·exact H8 f k j h1 (by omega)
def oq:Nat→Nat→Nat→List Nat
 |0,_,_=>[]
 |n+1,f,to=>if f=to then [] else oq n f (iJ V f (to-f-1))++oq n (iJ V f (to-f-1)+1) to++[iJ V f (to-f-1)]
theorem AL:∀(n m f to:Nat),f≤to→to-f≤n→to-f≤m→oq V n f to=oq V m f to
 |0,0,f,to,h,h1,h2=>rfl
 |0,m+1,f,to,h,h1,h2=>by
  obtain rfl:f=to:=by omega
  simp[oq]
 |n+1,0,f,to,h,h1,h2=>by
  obtain rfl:f=to:=by omega
  simp[oq]
 |n+1,m+1,f,to,h,h1,h2=>by
  rw[oq,oq];by_cases hf:f=to
  ·simp[hf]
  ·have:=ny V (f:=f) (to:=to) (by omega)
   rw[if_neg hf,if_neg hf,AL n m f _ (by omega) (by omega) (by omega),AL n m _ to (by omega) (by omega) (by omega)]
def Yg(f to:Nat):List Nat:=oq V (to-f) f to
theorem tZ(f:Nat):Yg V f f=[]:=by unfold Yg;simp[oq]
theorem Np{f to:Nat}(h:f<to):Yg V f to=Yg V f (iJ V f (to-f-1))++Yg V (iJ V f (to-f-1)+1) to++[iJ V f (to-f-1)]:=by
 have hl:=ny V h;unfold Yg;obtain⟨n,hn⟩:∃n,to-f=n+1:=⟨to-f-1,by omega⟩;rw[hn,oq,if_neg (by omega)];rw[hn] at hl;rw[hn,AL V n _ f _ (by omega) (by omega) (Nat.le_refl _),AL V n _ _ to (by omega) (by omega) (Nat.le_refl _)]
def yE:Nat→Nat→Nat→List Nat
 |0,_,_=>[]
 |n+1,f,to=>if f=to then [] else yE n (iJ V f (to-f-1)+1) to++[iJ V f (to-f-1)]
def Nz:Nat→Nat→Nat→List Nat
 |0,_,_=>[]
 |n+1,f,to=>if f=to then [] else Yg V f (iJ V f (to-f-1))++Nz n (iJ V f (to-f-1)+1) to
theorem AU:∀(n f to:Nat),f≤to→to-f≤n→Nz V n f to++yE V n f to=Yg V f to
 |0,f,to,h,h1=>by
  obtain rfl:f=to:=by omega
  simp[Nz,yE,tZ]
 |n+1,f,to,h,h1=>by
  rw[Nz,yE];by_cases hf:f=to
  ·subst hf;simp[tZ]
  ·have hl:=ny V (f:=f) (to:=to) (by omega)
   have ih:=AU n (iJ V f (to-f-1)+1) to (by omega) (by omega);rw[if_neg hf,if_neg hf,Np V (f:=f) (to:=to) (by omega),←ih];simp
def lS(i:Nat):List Nat→List Nat→Option (List Nat×List Nat)
 |[],out=>some ([],out)
 |t::st,out=>if V t<V i∨V t=V i∧bO (V i)=2 then some (t::st,out) else if V t=V i∧bO (V i)=0 then none else lS i st (out++[t])
def fZ(len:Nat):Nat→Nat→List Nat→List Nat→Except Nat (List Nat)
 |0,i,st,out=>.ok (out++st)
 |n+1,i,st,out=>if i<len then(match lS V i st out with
  |none=>.error i
  |some (st',out')=>fZ len n (i+1) (i::st') out') else .ok (out++st)
theorem KJ(i:Nat):∀(a b out:List Nat),(∀t∈a,V i<V t∨V t=V i∧bO (V i)=1)→lS V i (a++b) out=lS V i b (out++a)
 |[],b,out,h=>by simp
 |t::a,b,out,h=>by
  have ht:=h t (by simp);have h1:¬(V t<V i∨V t=V i∧bO (V i)=2):=by rcases ht with ht|⟨h1,h2⟩<;>rintro (h3|⟨h3,h4⟩)<;>omega
  have h2:¬(V t=V i∧bO (V i)=0):=by rcases ht with ht|⟨h1,h2⟩<;>rintro⟨h3,h4⟩<;>omega
  rw[List.cons_append,lS,if_neg h1,if_neg h2,KJ i a b _ (fun t' h'=>h t' (by simp[h']))];simp
theorem M5:∀(n f to:Nat),f≤to→to-f≤n→∀t∈yE V n f to,f≤t∧t<to
 |0,f,to,h,h1,t,ht=>by simp[yE] at ht
 |n+1,f,to,h,h1,t,ht=>by
  rw[yE] at ht;by_cases hf:f=to
  ·simp[hf] at ht
  ·have hl:=ny V (f:=f) (to:=to) (by omega)
   rw[if_neg hf] at ht;rcases List.mem_append.1 ht with ht|ht
   ·have:=M5 n _ to (by omega) (by omega) t ht;omega
   ·rw[List.mem_singleton.1 ht];omega
theorem aoF{k:Nat}(h:bO k=0):k=4:=by
 unfold bO at h;split at h
 ·assumption
 ·split at h<;>omega
theorem pK(k:Nat):bO k=0∨bO k=1∨bO k=2:=by
 unfold bO;split
 ·simp
 ·split<;>simp
theorem agQ(i:Nat):∀(n f:Nat),f<i→i-f≤n→(V i<V (iJ V f (i-f-1))∨V i=V (iJ V f (i-f-1))∧bO (V i)=1)→∀t∈yE V n f i,V i<V t∨V t=V i∧bO (V i)=1:=by
 intro n f hf hn hb t ht;have hin:=M5 V n f i (by omega) hn t ht;by_cases h:t=iJ V f (i-f-1)
 ·subst h;rcases hb with hb|⟨h1,h2⟩
  ·exact .inl hb
  ·exact .inr ⟨h1.symm,h2⟩
 ·by_cases h2:iJ V f (i-f-1)<t
  ·have:=H8 V f (i-f-1) t h2 (by omega)
   rcases hb with hb|⟨h1,h3⟩
   ·rcases this with h4|⟨h4,_⟩<;>exact .inl (by omega)
   ·rcases this with h4|⟨h4,h5⟩
    ·exact .inl (by omega)
    ·rw[←h4,←h1] at h5;exact absurd h3 h5
  ·exfalso
   obtain⟨n,rfl⟩:∃k,n=k+1:=⟨n-1,by omega⟩;rw[yE,if_neg (by omega)] at ht;have hl:=ny V hf;rcases List.mem_append.1 ht with ht|ht
   ·have:=M5 V n _ i (by omega) (by omega) t ht;omega
   ·exact h (List.mem_singleton.1 ht)
theorem Fu(n f:Nat):yE V n f f=[]:=by cases n<;>simp[yE]
theorem KO(n f:Nat):Nz V n f f=[]:=by cases n<;>simp[Nz]
theorem wP(n:Nat){f to s:Nat}(h:f<to)(hs:iJ V f (to-f-1)=s):yE V (n+1) f to=yE V n (s+1) to++[s]:=by rw[yE,if_neg (by omega),hs]
theorem KP(n:Nat){f to s:Nat}(h:f<to)(hs:iJ V f (to-f-1)=s):Nz V (n+1) f to=Yg V f s++Nz V n (s+1) to:=by rw[Nz,if_neg (by omega),hs]
theorem um(f:Nat):iJ V f (f+1-f-1)=f:=by rw[show f+1-f-1=0 by omega];rfl
theorem K5{f i:Nat}(h:f<i):iJ V f (i+1-f-1)=if V i<V (iJ V f (i-f-1))∨V i=V (iJ V f (i-f-1))∧bO (V (iJ V f (i-f-1)))=1 then i else iJ V f (i-f-1):=by
 obtain⟨k,hk⟩:∃k,i-f-1=k:=⟨_,rfl⟩;have e1:i+1-f-1=k+1:=by omega
 have e2:f+1+k=i:=by omega
 rw[hk,e1,iJ,e2]
theorem KI(i:Nat):∀(n f:Nat) (rest out:List Nat),f≤i→i-f≤n→∃st' P,yE V (n+1) f (i+1)=i::st'∧Nz V n f i++P=Nz V (n+1) f (i+1)∧
  lS V i (yE V n f i++rest) out=(match st' with
   |[]=>lS V i rest (out++P)
   |t::_=>if V t=V i∧bO (V i)=0 then none else some (st'++rest,out++P)):=by
 intro n
 induction n with
 |zero=>
  intro f rest out hf hn;have:f=i:=by omega
  subst this;exact⟨[],[],by rw[wP V 0 (Nat.lt_succ_self f) (um V f),Fu];rfl,by rw[KP V 0 (Nat.lt_succ_self f) (um V f),KO,KO,tZ],by simp[yE]⟩
 |succ n ih=>
  intro f rest out hf hn;by_cases hfi:f=i
  ·subst hfi
   exact⟨[],[],by rw[wP V (n+1) (Nat.lt_succ_self f) (um V f),Fu];rfl,by rw[KP V (n+1) (Nat.lt_succ_self f) (um V f),KO,KO,tZ],by simp[yE]⟩
  ·have hl:=ny V (f:=f) (to:=i) (by omega)
   have hs:=K5 V (f:=f) (i:=i) (by omega);by_cases hb:V i<V (iJ V f (i-f-1))∨V i=V (iJ V f (i-f-1))∧bO (V (iJ V f (i-f-1)))=1
   ·rw[if_pos hb] at hs
    have hb':V i<V (iJ V f (i-f-1))∨V i=V (iJ V f (i-f-1))∧bO (V i)=1:=by
     rcases hb with hb|⟨h1,h2⟩
     ·exact .inl hb
     ·exact .inr ⟨h1,by rw[h1];exact h2⟩
    refine⟨[],yE V (n+1) f i,?_,?_,?_⟩
    ·rw[wP V (n+1) (by omega) hs,Fu];rfl
    ·rw[AU V (n+1) f i hf hn,KP V (n+1) (by omega) hs,KO];simp
    ·exact KJ V i _ _ _ (agQ V i (n+1) f (by omega) hn hb')
   ·rw[if_neg hb] at hs
    obtain⟨st',P,c1,c2,c3⟩:=ih (iJ V f (i-f-1)+1) (iJ V f (i-f-1)::rest) out (by omega) (by omega);refine⟨st'++[iJ V f (i-f-1)],P,?_,?_,?_⟩
    ·rw[wP V (n+1) (by omega) hs,c1];rfl
    ·rw[KP V n (by omega) rfl,KP V (n+1) (by omega) hs,←c2];simp
    ·have e1:yE V (n+1) f i++rest=yE V n (iJ V f (i-f-1)+1) i++(iJ V f (i-f-1)::rest):=by rw[wP V n (by omega) rfl];simp
     rw[e1,c3];cases st' with
     |cons t st'=>simp
     |nil=>
      simp only[List.nil_append];rw[lS];by_cases h1:V (iJ V f (i-f-1))<V i∨V (iJ V f (i-f-1))=V i∧bO (V i)=2
      ·rw[if_pos h1,if_neg (by rintro⟨h3,h4⟩;rcases h1 with h1|⟨_,h1⟩<;>omega)];rfl
      ·rw[if_neg h1]
       by_cases h2:V (iJ V f (i-f-1))=V i∧bO (V i)=0
       ·rw[if_pos h2,if_pos h2]
       ·exfalso
        rcases Nat.lt_trichotomy (V i) (V (iJ V f (i-f-1))) with h|h|h
        ·exact hb (.inl h)
        ·rcases pK (V i) with h5|h5|h5
         ·exact h2 ⟨h.symm,h5⟩
         ·exact hb (.inr ⟨h,by rw[←h];exact h5⟩)
         ·exact h1 (.inr ⟨h.symm,h5⟩)
        ·exact h1 (.inl h)
theorem NH(f:Nat):∀k j,f≤j→j<iJ V f k→V (iJ V f k)<V j∨V (iJ V f k)=V j∧bO (V (iJ V f k))=1
 |0,j,h1,h2=>by simp[iJ] at h2;omega
 |k+1,j,h1,h2=>by
  have hin:=NI V f k;rw[iJ] at h2 ⊢;split at h2
  ·rename_i hc
   rw[if_pos hc];have key:∀j,f≤j→j≤f+k→V (iJ V f k)<V j∨V (iJ V f k)=V j:=fun j h1 h2=>by
    rcases Nat.lt_trichotomy j (iJ V f k) with h|h|h
    ·rcases NH f k j h1 h with h|⟨h,_⟩
     ·exact .inl h
     ·exact .inr h
    ·exact .inr (by rw[h])
    ·rcases H8 V f k j h h2 with h|⟨h,_⟩
     ·exact .inl h
     ·exact .inr h
   rcases hc with hc|⟨hc,hs⟩
   ·rcases key j h1 (by omega) with h|h<;>exact .inl (by omega)
   ·rcases key j h1 (by omega) with h|h
    ·exact .inl (by omega)
    ·exact .inr ⟨by omega,by rw[hc];exact hs⟩
  ·rename_i hc
   rw[if_neg hc];exact NH f k j h1 h2
def aji(f i:Nat):List Nat→Prop
 |[]=>∀j,f≤j→j<i→V i<V j∨V i=V j∧bO (V i)=1
 |t::_=>f≤t∧t<i∧(V t<V i∨V t=V i∧bO (V i)≠1)∧∀j,t<j→j<i→V i<V j∨V i=V j∧bO (V i)=1
theorem Pb(i:Nat):∀(n f:Nat) (st':List Nat),f≤i→i-f≤n→yE V (n+1) f (i+1)=i::st'→aji V f i st':=by
 intro n
 induction n with
 |zero=>
  intro f st' hf hn h;obtain rfl:f=i:=by omega
  rw[wP V 0 (Nat.lt_succ_self f) (um V f),Fu] at h;cases h;exact fun j h1 h2=>by omega
 |succ n ih=>
  intro f st' hf hn h;by_cases hfi:f=i
  ·subst hfi
   rw[wP V (n+1) (Nat.lt_succ_self f) (um V f),Fu] at h;cases h;exact fun j h1 h2=>by omega
  ·have hl:=ny V (f:=f) (to:=i) (by omega)
   have hs:=K5 V (f:=f) (i:=i) (by omega);by_cases hb:V i<V (iJ V f (i-f-1))∨V i=V (iJ V f (i-f-1))∧bO (V (iJ V f (i-f-1)))=1
   ·rw[if_pos hb] at hs
    rw[wP V (n+1) (by omega) hs,Fu] at h;cases h;intro j h1 h2;have key:V (iJ V f (i-f-1))<V j∨V (iJ V f (i-f-1))=V j:=by
     rcases Nat.lt_trichotomy j (iJ V f (i-f-1)) with h|h|h
     ·rcases NH V f _ j h1 h with h|⟨h,_⟩
      ·exact .inl h
      ·exact .inr h
     ·exact .inr (by rw[h])
     ·rcases H8 V f _ j h (by omega) with h|⟨h,_⟩
      ·exact .inl h
      ·exact .inr h
    rcases hb with hb|⟨hb,hc⟩
    ·rcases key with h|h<;>exact .inl (by omega)
    ·rcases key with h|h
     ·exact .inl (by omega)
     ·exact .inr ⟨by omega,by rw[hb];exact hc⟩
   ·rw[if_neg hb] at hs
    obtain⟨st2,P,c1,_,_⟩:=KI V i n (iJ V f (i-f-1)+1) [] [] (by omega) (by omega);have h5:=ih _ st2 (by omega) (by omega) c1;rw[wP V (n+1) (by omega) hs,c1] at h;have h6:st'=st2++[iJ V f (i-f-1)]:=by simpa using h.symm
    subst h6;cases st2 with
    |cons t r=>exact⟨by have:=h5.1;omega,h5.2.1,h5.2.2.1,h5.2.2.2⟩
    |nil=>
     refine⟨by omega,by omega,?_,fun j h1 h2=>h5 j (by omega) h2⟩;rcases Nat.lt_trichotomy (V i) (V (iJ V f (i-f-1))) with h|h|h
     ·exact absurd (.inl h) hb
     ·exact .inr ⟨h.symm,fun h7=>hb (.inr ⟨h,by rw[←h];exact h7⟩)⟩
     ·exact .inl h
theorem OM(V:Nat→Nat):∀(i t:Nat),t≤i→(∀j,t≤j→j<i→4<V j)→vW V i=vW V t
 |0,t,h,_=>by
  obtain rfl:t=0:=by omega
  rfl
 |i+1,t,h,hj=>by
  by_cases ht:t=i+1
  ·rw[ht]
  ·rw[vW,if_pos (hj i (by omega) (by omega))]
   exact OM V i t (by omega) fun j h1 h2=>hj j h1 (by omega)
theorem Vh(i:Nat)(h:yE V (i+1) 0 (i+1)=[i]):¬(V i=4∧vW V i=true):=by
 rintro⟨h4,hb⟩;have hk:=Pb V i i 0 [] (Nat.zero_le _) (by omega) h;have hs:bO (V i)=0:=by rw[h4];rfl
 rw[OM V i 0 (Nat.zero_le _) fun j h1 h2=>by rcases hk j h1 h2 with h|⟨h,h5⟩<;>omega] at hb;cases hb
theorem Eh(i t:Nat)(r:List Nat)(h:yE V (i+1) 0 (i+1)=i::t::r):(V t=V i∧bO (V i)=0)↔(V i=4∧vW V i=true):=by
 obtain⟨h0,h1,h2,h3⟩:=Pb V i i 0 (t::r) (Nat.zero_le _) (by omega) h;by_cases h4:V i=4
 ·have hs:bO (V i)=0:=by rw[h4];rfl
  have hb:vW V i=decide (V t=4):=by
   rw[OM V i (t+1) (by omega) fun j h5 h6=>by rcases h3 j (by omega) h6 with h|⟨h,h7⟩<;>omega];rw[vW,if_neg (by rcases h2 with h|⟨h,_⟩<;>omega)]
  rw[hb,decide_eq_true_eq];constructor
  ·rintro⟨h5,_⟩;exact⟨h4,by omega⟩
  ·rintro⟨_,h5⟩;exact⟨by omega,hs⟩
 ·constructor
  ·rintro⟨_,h5⟩;exact absurd (aoF h5) h4
  ·rintro⟨h5,_⟩;exact absurd h5 h4
theorem Cy(len:Nat):∀(n i:Nat),i≤len→len-i≤n→fZ V len n i (yE V i 0 i) (Nz V i 0 i)=match iE V len n i with
  |some k=>.error k
  |none=>.ok (Yg V 0 len)
 |0,i,h,h1=>by
  obtain rfl:i=len:=by omega
  rw[fZ,iE];simp only;rw[AU V i 0 i (Nat.zero_le _) (by omega)]
 |n+1,i,h,h1=>by
  rw[fZ,iE];by_cases hi:i<len
  ·rw[if_pos hi,if_pos hi]
   obtain⟨st',P,c1,c2,c3⟩:=KI V i i 0 [] (Nz V i 0 i) (Nat.zero_le _) (by omega);rw[List.append_nil] at c3;rw[c3];have ih:=Cy len n (i+1) (by omega) (by omega);cases st' with
   |nil=>
    rw[if_neg (Vh V i c1)];simp only[lS];rw[←ih,c1,c2]
   |cons t r=>
    simp only;by_cases hc:V t=V i∧bO (V i)=0
    ·rw[if_pos hc,if_pos ((Eh V i t r c1).1 hc)]
    ·rw[if_neg hc,if_neg (fun h=>hc ((Eh V i t r c1).2 h))]
     simp only[List.append_nil];rw[←ih,c1,c2]
  ·obtain rfl:i=len:=by omega
   rw[if_neg hi,if_neg hi];simp only;rw[AU V i 0 i (Nat.zero_le _) (by omega)]
end
end Go.Proofs.YtijcobeebaceoaaGreatDoor
namespace Go.Proofs.YtijcobeebaceoaaGreatDoor
open Go.RowKit
inductive Rt(F:Nat→Nat):Nat→Nat→Prop where
 |here (a:Nat) (h:F a=a):Rt F a a
 |go (j a:Nat) (h:F j≠j) (r:Rt F (F j) a):Rt F j a
def upd{α:Type}(F:Nat→α)(x:Nat)(v:α):Nat→α:=fun j=>if j=x then v else F j
theorem BH{α:Type}(F:Nat→α)(x:Nat)(v:α):upd F x v x=v:=if_pos rfl
theorem upd_ne{α:Type}(F:Nat→α){x j:Nat}(v:α)(h:j≠x):upd F x v j=F j:=if_neg h
inductive Run(ops:List Tk):List Nat→(Nat→Nat)→(Nat→Ex)→(Nat→Nat)→(Nat→Ex)→Prop where
 |nil (F:Nat→Nat) (A:Nat→Ex):Run ops [] F A F A
 |cons (i a:Nat) (r:List Nat) (F F':Nat→Nat) (A A':Nat→Ex) (h:Rt F i a) (hr:Run ops r (upd F (i+1) a) (upd A a (opE (opAt ops i) (A a) (A (i+1)))) F' A'):Run ops (i::r) F A F' A'
theorem Run.app{ops:List Tk}{r r2:List Nat}{F F1 F2:Nat→Nat}{A A1 A2:Nat→Ex}(h1:Run ops r F A F1 A1)(h2:Run ops r2 F1 A1 F2 A2):Run ops (r++r2) F A F2 A2:=by
 induction h1 with
 |nil=>exact h2
 |cons i a r F F' A A' h hr ih=>exact .cons i a _ _ _ _ _ h (ih h2)
def Seg(F:Nat→Nat)(f to:Nat):Prop:=∀j,f≤j→j≤to→f≤F j∧F j≤to∧Rt F j f
theorem Rt.keep{F F':Nat→Nat}{f to:Nat}(hs:∀j,f≤j→j≤to→f≤F j∧F j≤to)(he:∀j,f≤j→j≤to→F' j=F j){j a:Nat}(h:Rt F j a):f≤j→j≤to→Rt F' j a:=by
 induction h with
 |here a h=>intro h1 h2;exact .here a (by rw[he a h1 h2];exact h)
 |go j a h r ih=>
  intro h1 h2;have:=hs j h1 h2;exact .go j a (by rw[he j h1 h2];exact h) (by rw[he j h1 h2];exact ih this.1 this.2)
theorem Rt.root{F:Nat→Nat}{j a:Nat}(h:Rt F j a):F a=a:=by
 induction h with
 |here a h=>exact h
 |go j a h r ih=>exact ih
theorem Rt.tie{F F':Nat→Nat}{f s to:Nat}(hs:∀j,s≤j→j≤to→s≤F j∧F j≤to)(he:∀j,s<j→j≤to→F' j=F j)(hx:F' s=f)(hne:f≠s)(hf:F' f=f){j a:Nat}(h:Rt F j a):a=s→s≤j→j≤to→Rt F' j f:=by
 induction h with
 |here a h=>
  intro h0 h1 h2;subst h0;exact .go a f (by rw[hx];exact hne) (by rw[hx];exact .here f hf)
 |go j a h r ih=>
  intro h0 h1 h2;have h3:=hs j h1 h2;by_cases hj:j=s
  ·subst hj
   exact .go j f (by rw[hx];exact hne) (by rw[hx];exact .here f hf)
  ·exact .go j f (by rw[he j (by omega) h2];exact h) (by rw[he j (by omega) h2];exact ih h0 h3.1 h3.2)
theorem acj(l:List Ex)(ops:List Tk):∀(m f to:Nat) (F:Nat→Nat) (A:Nat→Ex),f≤to→to-f≤m→(∀j,f≤j→j≤to→F j=j∧A j=uK l j)→∃F' A',Run ops (Yg (Au ops) f to) F A F' A'∧Seg F' f to∧A' f=fJ l ops m f to∧∀j,(j<f∨to<j)→F' j=F j∧A' j=A j:=by
 intro m
 induction m with
 |zero=>
  intro f to F A hf hm h;obtain rfl:f=to:=by omega
  rw[tZ];refine⟨F,A,.nil _ _,fun j h1 h2=>?_,?_,fun j _=>⟨rfl,rfl⟩⟩
  ·obtain rfl:j=f:=by omega
   have:=(h j h1 h2).1;exact⟨by omega,by omega,.here j this⟩
  ·rw[fJ];exact(h f (by omega) (by omega)).2
 |succ m ih=>
  intro f to F A hf hm h;by_cases hft:f=to
  ·subst hft
   rw[tZ];refine⟨F,A,.nil _ _,fun j h1 h2=>?_,?_,fun j _=>⟨rfl,rfl⟩⟩
   ·obtain rfl:j=f:=by omega
    have:=(h j h1 h2).1;exact⟨by omega,by omega,.here j this⟩
   ·rw[fJ,if_pos rfl];exact(h f (by omega) (by omega)).2
  ·have hlt:f<to:=by omega
   have hl:=ny (Au ops) hlt;have he:=adh (Au ops) hlt;rw[Np (Au ops) hlt];generalize iJ (Au ops) f (to-f-1)=s at *;obtain⟨F1,A1,r1,s1,b1,o1⟩:=ih f s F A hl.1 (by omega) (fun j h1 h2=>h j h1 (by omega));obtain⟨F2,A2,r2,s2,b2,o2⟩:=ih (s+1) to F1 A1 (by omega) (by omega) (fun j h1 h2=>by
    obtain⟨z1,z2⟩:=o1 j (.inr (by omega));rw[z1,z2];exact h j (by omega) h2)
   have e1:∀j,f≤j→j≤s→F2 j=F1 j∧A2 j=A1 j:=fun j h1 h2=>o2 j (.inl (by omega))
   have k1:Rt F2 s f:=(s1 s hl.1 (Nat.le_refl _)).2.2.keep (fun j h1 h2=>⟨(s1 j h1 h2).1,(s1 j h1 h2).2.1⟩) (fun j h1 h2=>(e1 j h1 h2).1) hl.1 (Nat.le_refl _);have hroot:=k1.root;refine⟨upd F2 (s+1) f,upd A2 f (opE (opAt ops s) (A2 f) (A2 (s+1))),(r1.app r2).app (.cons s f [] _ _ _ _ k1 (.nil _ _)),?_,?_,?_⟩
   ·intro j h1 h2
    by_cases hj:j≤s
    ·have z:=s1 j h1 hj
     have zz:upd F2 (s+1) f j=F1 j:=by rw[upd_ne _ _ (by omega)];exact(e1 j h1 hj).1
     rw[zz];refine⟨z.1,by omega,z.2.2.keep (fun j h1 h2=>⟨(s1 j h1 h2).1,(s1 j h1 h2).2.1⟩) (fun j h1 h2=>?_) h1 hj⟩;rw[upd_ne _ _ (by omega)];exact(e1 j h1 h2).1
    ·have z:=s2 j (by omega) h2
     have hff:upd F2 (s+1) f f=f:=by rw[upd_ne _ _ (by omega)];exact hroot
     have ht:=z.2.2.tie (F':=upd F2 (s+1) f) (f:=f) (fun j h1 h2=>⟨(s2 j h1 h2).1,(s2 j h1 h2).2.1⟩) (fun j h1 h2=>upd_ne _ _ (by omega)) (BH _ _ _) (by omega) hff rfl (by omega) h2;by_cases hjs:j=s+1
     ·subst hjs;rw[BH];exact⟨Nat.le_refl _,by omega,ht⟩
     ·rw[upd_ne _ _ hjs];exact⟨by omega,z.2.1,ht⟩
   ·rw[BH,fJ,if_neg hft]
    simp only;rw[he,(e1 f (Nat.le_refl _) hl.1).2,b1,b2]
   ·intro j hj
    rw[upd_ne _ _ (by omega),upd_ne _ _ (by omega)];have z1:=o1 j (by omega);have z2:=o2 j (by omega);exact⟨z2.1.trans z1.1,z2.2.trans z1.2⟩
set_option maxRecDepth 10000
section
variable{l:List ByteArray}(hl:l.length≤1000000){i:Nat}
theorem Nv{t:Nat}(h:t<l.length):ev (q99 (sv l[t]))=some (0,[iv (bZ l t:Nat),iv (bO (bZ l t):Nat)]):=by
 have:bZ l t=jl l[t]:=by unfold bZ;rw[List.getElem?_eq_getElem h];rfl
 rw[this];exact acM _
theorem tT(t:Nat)(st:List Nat):(st.reverse++[t])[st.length]? = some t:=by rw[List.getElem?_append_right (by simp)];simp
theorem uf(V:Nat→Nat)(i t:Nat)(st out:List Nat):lS V i (t::st) out=if V t<V i∨V t=V i∧bO (V i)=2 then some (t::st,out) else if V t=V i∧bO (V i)=0 then none else lS V i st (out++[t]):=by rw[lS]
include hl
theorem aaI:∀(st out:List Nat),(∀t∈st,t<l.length)→st.length+out.length≤l.length→
  ev (Xl (strs l) (iv (bZ l i:Nat)) (iv (bO (bZ l i):Nat)) (iv i) (iv i) (iv l.length) (strs l) (fT st.reverse) (fT out))=some (match lS (bZ l) i st out with
   |some r=>(2,[fT r.1.reverse,fT r.2,iv i,iv i,iv l.length,strs l,strs l])
   |none=>(3,[nS,iv i,iv 112]))
 |[],out,h,hb=>ax.of (by rw[Zy];simp[lS])
 |t::st,out,h,hb=>by
  have ht:=h t (by simp);have ih:=aaI st (out++[t]) (fun x hx=>h x (by simp[hx])) (by simp at hb ⊢;omega);refine ax.of ?_;rw[Zy];have e0:IntKind.i64.wrap (st.length:Int)=(st.length:Int):=aJ (by simp at hb;omega);have hx:=fun k'=>cK (d:=aK.fail) (k:=k') (List.getElem?_eq_getElem ht)
  have hk:=fun k'=>iT (d:=aK.fail) (k:=k') (tT t st)
  have hap:=fun k'=>oU (d:=aK.fail) (kp:=k') (l:=out) (x:=t) (by simp at hb;omega)
  have htk:=fun k'=>wJ (d:=aK.fail) (k:=k') (l:=st.reverse++[t]) (i:=st.length) (by simp)
  have htt:(st.reverse++[t]).take st.length=st.reverse:=by rw[List.take_append_of_le_length (by simp)];exact List.take_of_length_le (by simp)
  rw[htt] at htk;have hp:=Nv (l:=l) ht;rw[uf];by_cases h1:bZ l t<bZ l i
  ·rw[if_pos (.inl h1),List.reverse_cons]
   simp[e0,hk,hx,hp,h1]
  ·by_cases h2:bZ l t=bZ l i
   ·rcases pK (bZ l i) with h3|h3|h3
    ·rw[if_neg (by rintro (h|⟨_,h⟩)<;>omega),if_pos ⟨h2,h3⟩,List.reverse_cons]
     simp[e0,hk,hx,hp,eq_false h1,eq_true (show ((bZ l t:Nat):Int)=((bZ l i:Nat):Int) by rw[h2]),eq_false (show ¬((bO (bZ l i):Nat):Int)=2 by omega),eq_true h3]
    ·rw[if_neg (by rintro (h|⟨_,h⟩)<;>omega),if_neg (by rintro⟨_,h⟩;omega),List.reverse_cons]
     simp[e0,hk,hx,hp,eq_false h1,eq_true (show ((bZ l t:Nat):Int)=((bZ l i:Nat):Int) by rw[h2]),eq_false (show ¬((bO (bZ l i):Nat):Int)=2 by omega),eq_false (show ¬bO (bZ l i)=0 by omega),hap,htk,ih]
    ·rw[if_pos (.inr ⟨h2,h3⟩),List.reverse_cons]
     simp[e0,hk,hx,hp,eq_false h1,eq_true (show ((bZ l t:Nat):Int)=((bZ l i:Nat):Int) by rw[h2]),eq_true (show ((bO (bZ l i):Nat):Int)=2 by omega)]
   ·rw[if_neg (by rintro (h|⟨h,_⟩)<;>omega),if_neg (by rintro⟨h,_⟩;omega),List.reverse_cons]
    simp[e0,hk,hx,hp,eq_false h1,eq_false (show ¬((bZ l t:Nat):Int)=((bZ l i:Nat):Int) by omega),hap,htk,ih]
theorem aaH:∀(st out:List Nat),(∀t∈st,t<l.length)→st.length+out.length≤l.length→
  ev (Xk (strs l) (iv (bZ l i:Nat)) (iv (bO (bZ l i):Nat)) (iv i) (iv i) (iv l.length) (strs l) (fT st.reverse) (fT out))=some (match lS (bZ l) i st out with
   |some r=>(2,[fT r.1.reverse,fT r.2,iv i,iv i,iv l.length,strs l,strs l])
   |none=>(3,[nS,iv i,iv 112]))
 |[],out,h,hb=>ax.of (by rw[Zx];simp[lS])
 |t::st,out,h,hb=>by
  have ht:=h t (by simp);have ih:=aaH st (out++[t]) (fun x hx=>h x (by simp[hx])) (by simp at hb ⊢;omega);refine ax.of ?_;rw[Zx];have e0:IntKind.i64.wrap (st.length:Int)=(st.length:Int):=aJ (by simp at hb;omega);have hx:=fun k'=>cK (d:=aK.fail) (k:=k') (List.getElem?_eq_getElem ht)
  have hk:=fun k'=>iT (d:=aK.fail) (k:=k') (tT t st)
  have hap:=fun k'=>oU (d:=aK.fail) (kp:=k') (l:=out) (x:=t) (by simp at hb;omega)
  have htk:=fun k'=>wJ (d:=aK.fail) (k:=k') (l:=st.reverse++[t]) (i:=st.length) (by simp)
  have htt:(st.reverse++[t]).take st.length=st.reverse:=by rw[List.take_append_of_le_length (by simp)];exact List.take_of_length_le (by simp)
  rw[htt] at htk;have hp:=Nv (l:=l) ht;rw[uf];by_cases h1:bZ l t<bZ l i
  ·rw[if_pos (.inl h1),List.reverse_cons]
   simp[e0,hk,hx,hp,h1]
  ·by_cases h2:bZ l t=bZ l i
   ·rcases pK (bZ l i) with h3|h3|h3
    ·rw[if_neg (by rintro (h|⟨_,h⟩)<;>omega),if_pos ⟨h2,h3⟩,List.reverse_cons]
     simp[e0,hk,hx,hp,eq_false h1,eq_true (show ((bZ l t:Nat):Int)=((bZ l i:Nat):Int) by rw[h2]),eq_false (show ¬((bO (bZ l i):Nat):Int)=2 by omega),eq_true h3]
    ·rw[if_neg (by rintro (h|⟨_,h⟩)<;>omega),if_neg (by rintro⟨_,h⟩;omega),List.reverse_cons]
     simp[e0,hk,hx,hp,eq_false h1,eq_true (show ((bZ l t:Nat):Int)=((bZ l i:Nat):Int) by rw[h2]),eq_false (show ¬((bO (bZ l i):Nat):Int)=2 by omega),eq_false (show ¬bO (bZ l i)=0 by omega),hap,htk,ih]
    ·rw[if_pos (.inr ⟨h2,h3⟩),List.reverse_cons]
     simp[e0,hk,hx,hp,eq_false h1,eq_true (show ((bZ l t:Nat):Int)=((bZ l i:Nat):Int) by rw[h2]),eq_true (show ((bO (bZ l i):Nat):Int)=2 by omega)]
   ·rw[if_neg (by rintro (h|⟨h,_⟩)<;>omega),if_neg (by rintro⟨h,_⟩;omega),List.reverse_cons]
    simp[e0,hk,hx,hp,eq_false h1,eq_false (show ¬((bZ l t:Nat):Int)=((bZ l i:Nat):Int) by omega),hap,htk,ih]
omit hl in
theorem G9(V:Nat→Nat)(i:Nat):∀(st out:List Nat) {r:List Nat×List Nat},lS V i st out=some r→(∀t∈r.1,t∈st)∧r.1.length+r.2.length=st.length+out.length
 |[],out,r,h=>by rw[lS] at h;cases h;simp
 |t::st,out,r,h=>by
  rw[lS] at h;split at h
  ·cases h;simp
  ·split at h
   ·cases h
   ·have:=G9 V i st _ h
    exact⟨fun x hx=>List.mem_cons_of_mem _ (this.1 x hx),by simp at this ⊢;omega⟩
def apO(l:List ByteArray)(i:Nat)(st:List Nat)(z:Rs):Option (List Nat×List Nat)→Prop
 |none=>z=(1,[fT st.reverse,nS,iv i,iv 112])∨z=(3,[nS,iv i,iv 112])
 |some r=>r=(st,[])∧z=(0,[fT st.reverse,iv i,iv i,iv l.length,strs l,strs l,nS])∨z=(2,[fT r.1.reverse,fT r.2,iv i,iv i,iv l.length,strs l,strs l])
def apN(l:List ByteArray)(i:Nat)(st out:List Nat)(z:Rs):Option (List Nat×List Nat)→Prop
 |none=>z=(1,[fT st.reverse,fT out,nS,iv i,iv 112])∨z=(3,[nS,iv i,iv 112])
 |some r=>r=(st,out)∧z=(0,[fT st.reverse,fT out,iv i,iv i,iv l.length,strs l,strs l])∨z=(2,[fT r.1.reverse,fT r.2,iv i,iv i,iv l.length,strs l,strs l])
theorem aiV:∀(st out:List Nat),(∀t∈st,t<l.length)→st.length+out.length≤l.length→∃z,ev (Xn (strs l) (iv (bZ l i:Nat)) (iv (bO (bZ l i):Nat)) (iv i) (iv i) (iv l.length) (strs l) (fT st.reverse))=some z∧apO l i st z (lS (bZ l) i st [])
 |[],out,h,hb=>⟨_,ax.of (by rw[sP];simp),.inl ⟨rfl,rfl⟩⟩
 |t::st,out,h,hb=>by
  have ht:=h t (by simp);have e0:IntKind.i64.wrap (st.length:Int)=(st.length:Int):=aJ (by simp at hb;omega);have hx:=fun k'=>cK (d:=aK.fail) (k:=k') (List.getElem?_eq_getElem ht)
  have hk:=fun k'=>iT (d:=aK.fail) (k:=k') (tT t st)
  have htk:=fun k'=>wJ (d:=aK.fail) (k:=k') (l:=st.reverse++[t]) (i:=st.length) (by simp)
  have htt:(st.reverse++[t]).take st.length=st.reverse:=by rw[List.take_append_of_le_length (by simp)];exact List.take_of_length_le (by simp)
  rw[htt] at htk;have hp:=Nv (l:=l) ht;have hap:=fun k'=>JA (d:=aK.fail) (kp:=k') (x:=t)
  have hn:=aaI (i:=i) hl st ([t]) (fun x hx=>h x (by simp[hx])) (by simp at hb ⊢;omega);rw[uf]
  try rw[List.nil_append]
  by_cases h1:bZ l t<bZ l i
  ·rw[if_pos (.inl h1)]
   exact⟨_,ax.of (by rw[sP];rw[List.reverse_cons];simp[e0,hk,hx,hp,h1];rfl),.inl ⟨rfl,by rw[List.reverse_cons]⟩⟩
  ·by_cases h2:bZ l t=bZ l i
   ·rcases pK (bZ l i) with h3|h3|h3
    ·rw[if_neg (by rintro (h|⟨_,h⟩)<;>omega),if_pos ⟨h2,h3⟩]
     exact⟨_,ax.of (by rw[sP];rw[List.reverse_cons];simp[e0,hk,hx,hp,eq_false h1,eq_true (show ((bZ l t:Nat):Int)=((bZ l i:Nat):Int) by rw[h2]),eq_false (show ¬((bO (bZ l i):Nat):Int)=2 by omega),eq_true h3];rfl),.inl (by rw[List.reverse_cons])⟩
    ·rw[if_neg (by rintro (h|⟨_,h⟩)<;>omega),if_neg (by rintro⟨_,h⟩;omega)]
     cases hr:lS (bZ l) i st ([t]) with
     |none=>rw[hr] at hn;exact⟨_,ax.of (by rw[sP];rw[List.reverse_cons];simp[e0,hk,hx,hp,eq_false h1,eq_true (show ((bZ l t:Nat):Int)=((bZ l i:Nat):Int) by rw[h2]),eq_false (show ¬((bO (bZ l i):Nat):Int)=2 by omega),eq_false (show ¬bO (bZ l i)=0 by omega),hap,htk,hn]),.inr rfl⟩
     |some r=>rw[hr] at hn;exact⟨_,ax.of (by rw[sP];rw[List.reverse_cons];simp[e0,hk,hx,hp,eq_false h1,eq_true (show ((bZ l t:Nat):Int)=((bZ l i:Nat):Int) by rw[h2]),eq_false (show ¬((bO (bZ l i):Nat):Int)=2 by omega),eq_false (show ¬bO (bZ l i)=0 by omega),hap,htk,hn]),.inr rfl⟩
    ·rw[if_pos (.inr ⟨h2,h3⟩)]
     exact⟨_,ax.of (by rw[sP];rw[List.reverse_cons];simp[e0,hk,hx,hp,eq_false h1,eq_true (show ((bZ l t:Nat):Int)=((bZ l i:Nat):Int) by rw[h2]),eq_true (show ((bO (bZ l i):Nat):Int)=2 by omega)];rfl),.inl ⟨rfl,by rw[List.reverse_cons]⟩⟩
   ·rw[if_neg (by rintro (h|⟨h,_⟩)<;>omega),if_neg (by rintro⟨h,_⟩;omega)]
    cases hr:lS (bZ l) i st ([t]) with
    |none=>rw[hr] at hn;exact⟨_,ax.of (by rw[sP];rw[List.reverse_cons];simp[e0,hk,hx,hp,eq_false h1,eq_false (show ¬((bZ l t:Nat):Int)=((bZ l i:Nat):Int) by omega),hap,htk,hn]),.inr rfl⟩
    |some r=>rw[hr] at hn;exact⟨_,ax.of (by rw[sP];rw[List.reverse_cons];simp[e0,hk,hx,hp,eq_false h1,eq_false (show ¬((bZ l t:Nat):Int)=((bZ l i:Nat):Int) by omega),hap,htk,hn]),.inr rfl⟩
theorem aiU:∀(st out:List Nat),(∀t∈st,t<l.length)→st.length+out.length≤l.length→∃z,ev (Xm (strs l) (iv (bZ l i:Nat)) (iv (bO (bZ l i):Nat)) (iv i) (iv i) (iv l.length) (strs l) (fT st.reverse) (fT out))=some z∧apN l i st out z (lS (bZ l) i st out)
 |[],out,h,hb=>⟨_,ax.of (by rw[sO];simp),.inl ⟨rfl,rfl⟩⟩
 |t::st,out,h,hb=>by
  have ht:=h t (by simp);have e0:IntKind.i64.wrap (st.length:Int)=(st.length:Int):=aJ (by simp at hb;omega);have hx:=fun k'=>cK (d:=aK.fail) (k:=k') (List.getElem?_eq_getElem ht)
  have hk:=fun k'=>iT (d:=aK.fail) (k:=k') (tT t st)
  have htk:=fun k'=>wJ (d:=aK.fail) (k:=k') (l:=st.reverse++[t]) (i:=st.length) (by simp)
  have htt:(st.reverse++[t]).take st.length=st.reverse:=by rw[List.take_append_of_le_length (by simp)];exact List.take_of_length_le (by simp)
  rw[htt] at htk;have hp:=Nv (l:=l) ht;have hap:=fun k'=>oU (d:=aK.fail) (kp:=k') (l:=out) (x:=t) (by simp at hb;omega)
  have hn:=aaH (i:=i) hl st (out++[t]) (fun x hx=>h x (by simp[hx])) (by simp at hb ⊢;omega);rw[uf]
  try rw[List.nil_append]
  by_cases h1:bZ l t<bZ l i
  ·rw[if_pos (.inl h1)]
   exact⟨_,ax.of (by rw[sO];rw[List.reverse_cons];simp[e0,hk,hx,hp,h1];rfl),.inl ⟨rfl,by rw[List.reverse_cons]⟩⟩
  ·by_cases h2:bZ l t=bZ l i
   ·rcases pK (bZ l i) with h3|h3|h3
    ·rw[if_neg (by rintro (h|⟨_,h⟩)<;>omega),if_pos ⟨h2,h3⟩]
     exact⟨_,ax.of (by rw[sO];rw[List.reverse_cons];simp[e0,hk,hx,hp,eq_false h1,eq_true (show ((bZ l t:Nat):Int)=((bZ l i:Nat):Int) by rw[h2]),eq_false (show ¬((bO (bZ l i):Nat):Int)=2 by omega),eq_true h3];rfl),.inl (by rw[List.reverse_cons])⟩
    ·rw[if_neg (by rintro (h|⟨_,h⟩)<;>omega),if_neg (by rintro⟨_,h⟩;omega)]
     cases hr:lS (bZ l) i st (out++[t]) with
     |none=>rw[hr] at hn;exact⟨_,ax.of (by rw[sO];rw[List.reverse_cons];simp[e0,hk,hx,hp,eq_false h1,eq_true (show ((bZ l t:Nat):Int)=((bZ l i:Nat):Int) by rw[h2]),eq_false (show ¬((bO (bZ l i):Nat):Int)=2 by omega),eq_false (show ¬bO (bZ l i)=0 by omega),hap,htk,hn]),.inr rfl⟩
     |some r=>rw[hr] at hn;exact⟨_,ax.of (by rw[sO];rw[List.reverse_cons];simp[e0,hk,hx,hp,eq_false h1,eq_true (show ((bZ l t:Nat):Int)=((bZ l i:Nat):Int) by rw[h2]),eq_false (show ¬((bO (bZ l i):Nat):Int)=2 by omega),eq_false (show ¬bO (bZ l i)=0 by omega),hap,htk,hn]),.inr rfl⟩
    ·rw[if_pos (.inr ⟨h2,h3⟩)]
     exact⟨_,ax.of (by rw[sO];rw[List.reverse_cons];simp[e0,hk,hx,hp,eq_false h1,eq_true (show ((bZ l t:Nat):Int)=((bZ l i:Nat):Int) by rw[h2]),eq_true (show ((bO (bZ l i):Nat):Int)=2 by omega)];rfl),.inl ⟨rfl,by rw[List.reverse_cons]⟩⟩
   ·rw[if_neg (by rintro (h|⟨h,_⟩)<;>omega),if_neg (by rintro⟨h,_⟩;omega)]
    cases hr:lS (bZ l) i st (out++[t]) with
    |none=>rw[hr] at hn;exact⟨_,ax.of (by rw[sO];rw[List.reverse_cons];simp[e0,hk,hx,hp,eq_false h1,eq_false (show ¬((bZ l t:Nat):Int)=((bZ l i:Nat):Int) by omega),hap,htk,hn]),.inr rfl⟩
    |some r=>rw[hr] at hn;exact⟨_,ax.of (by rw[sO];rw[List.reverse_cons];simp[e0,hk,hx,hp,eq_false h1,eq_false (show ¬((bZ l t:Nat):Int)=((bZ l i:Nat):Int) by omega),hap,htk,hn]),.inr rfl⟩
theorem alg:∀(n i:Nat) (st out:List Nat),i≤l.length→l.length-i≤n→(∀t∈st,t<i)→st.length+out.length≤i→
  match fZ (bZ l) l.length n i st out with
  |.error k=>ev (Ch (iv i) (iv l.length) (strs l) (strs l) (fT st.reverse) (fT out))=some (0,[nS,iv k,iv 112])
  |.ok r=>∃st' out',r=out'++st'∧st'.length+out'.length≤l.length∧ev (Ch (iv i) (iv l.length) (strs l) (strs l) (fT st.reverse) (fT out))=some (3,[fT st'.reverse,fT out']):=by
 intro n
 induction n with
 |zero=>
  intro i st out hi hn hs hb;rw[fZ];exact⟨st,out,rfl,by omega,ax.of (by rw[sQ];simp[show ¬i<l.length by omega])⟩
 |succ n ih=>
  intro i st out hi hn hs hb;rw[fZ];by_cases h:i<l.length
  ·rw[if_pos h]
   have e1:IntKind.i64.wrap ((i:Int)+1)=((i+1:Nat):Int):=by rw[aJ (by omega)];omega
   have hx:=fun k'=>cK (d:=aK.fail) (k:=k') (List.getElem?_eq_getElem h)
   have hp:=Nv (l:=l) h;obtain⟨z,g1,g2⟩:=aiU (i:=i) hl st out (fun t ht=>by have:=hs t ht;omega) (by omega);cases hr:lS (bZ l) i st out with
   |none=>
    rw[hr] at g2;rcases g2 with rfl|rfl
    ·exact ax.of (by rw[sQ];simp[-Int.natCast_add,h,hx,hp,g1])
    ·exact ax.of (by rw[sQ];simp[-Int.natCast_add,h,hx,hp,g1])
   |some r=>
    have hin:=G9 _ _ _ _ hr;obtain⟨st1,out1⟩:=r;have hn:=ih (i+1) (i::st1) out1 (by omega) (by omega) (fun t ht=>by
     rcases List.mem_cons.1 ht with rfl|ht
     ·omega
     ·have:=hs t (hin.1 t ht);omega) (by have:=hin.2;simp at this ⊢;omega)
    rw[List.reverse_cons] at hn;have hap:=fun k'=>oU (d:=aK.fail) (kp:=k') (l:=st1.reverse) (x:=i) (by have:=hin.2;simp at this ⊢;omega)
    have key:∀z,ev (Ch (iv (i+1:Nat)) (iv l.length) (strs l) (strs l) (fT (st1.reverse++[i])) (fT out1))=some z→(z.1=0∨z.1=3)→ev (Ch (iv i) (iv l.length) (strs l) (strs l) (fT st.reverse) (fT out))=some z:=by
     rintro⟨k,ys⟩ hz hk;rw[hr] at g2;refine ax.of ?_;rcases g2 with⟨g3,rfl⟩|rfl
     ·cases g3
      rcases hk with rfl|rfl
      ·rw[sQ];simp[-Int.natCast_add,h,hx,hp,g1,hap,e1,hz]
      ·rw[sQ];simp[-Int.natCast_add,h,hx,hp,g1,hap,e1,hz]
     ·rcases hk with rfl|rfl
      ·rw[sQ];simp[-Int.natCast_add,h,hx,hp,g1,hap,e1,hz]
      ·rw[sQ];simp[-Int.natCast_add,h,hx,hp,g1,hap,e1,hz]
    simp only;cases ho:fZ (bZ l) l.length n (i+1) (i::st1) out1 with
    |error k=>rw[ho] at hn;exact key _ hn (.inl rfl)
    |ok r=>
     rw[ho] at hn;obtain⟨st',out',c1,c2,c3⟩:=hn;exact⟨st',out',c1,c2,key _ c3 (.inr rfl)⟩
  ·rw[if_neg h]
   exact⟨st,out,rfl,by omega,ax.of (by rw[sQ];simp[h])⟩
theorem alh:∀(n i:Nat) (st:List Nat),i≤l.length→l.length-i≤n→(∀t∈st,t<i)→st.length≤i→
  match fZ (bZ l) l.length n i st [] with
  |.error k=>ev (Gx (iv i) (iv l.length) (strs l) (strs l) (fT st.reverse))=some (0,[nS,iv k,iv 112])
  |.ok r=>∃st' out',r=out'++st'∧st'.length+out'.length≤l.length∧(out'=[]∧ev (Gx (iv i) (iv l.length) (strs l) (strs l) (fT st.reverse))=some (2,[fT st'.reverse,nS])∨ev (Gx (iv i) (iv l.length) (strs l) (strs l) (fT st.reverse))=some (3,[fT st'.reverse,fT out'])):=by
 intro n
 induction n with
 |zero=>
  intro i st hi hn hs hb;rw[fZ];exact⟨st,[],rfl,by simp;omega,.inl ⟨rfl,ax.of (by rw[qL];simp[show ¬i<l.length by omega])⟩⟩
 |succ n ih=>
  intro i st hi hn hs hb;rw[fZ];by_cases h:i<l.length
  ·rw[if_pos h]
   have e1:IntKind.i64.wrap ((i:Int)+1)=((i+1:Nat):Int):=by rw[aJ (by omega)];omega
   have hx:=fun k'=>cK (d:=aK.fail) (k:=k') (List.getElem?_eq_getElem h)
   have hp:=Nv (l:=l) h;obtain⟨z,g1,g2⟩:=aiV (i:=i) hl st [] (fun t ht=>by have:=hs t ht;omega) (by simp;omega);cases hr:lS (bZ l) i st [] with
   |none=>
    rw[hr] at g2;rcases g2 with rfl|rfl
    ·exact ax.of (by rw[qL];simp[-Int.natCast_add,h,hx,hp,g1])
    ·exact ax.of (by rw[qL];simp[-Int.natCast_add,h,hx,hp,g1])
   |some r=>
    have hin:=G9 _ _ _ _ hr;obtain⟨st1,out1⟩:=r;have hs2:∀t∈i::st1,t<i+1:=fun t ht=>by
     rcases List.mem_cons.1 ht with rfl|ht
     ·omega
     ·have:=hs t (hin.1 t ht);omega
    have hap:=fun k'=>oU (d:=aK.fail) (kp:=k') (l:=st1.reverse) (x:=i) (by have:=hin.2;simp at this ⊢;omega)
    rw[hr] at g2;simp only;rcases g2 with⟨g3,rfl⟩|rfl
    ·cases g3
     have hn:=ih (i+1) (i::st) (by omega) (by omega) hs2 (by simp;omega);rw[List.reverse_cons] at hn;cases ho:fZ (bZ l) l.length n (i+1) (i::st) [] with
     |error k=>rw[ho] at hn;exact ax.of (by rw[qL];simp[-Int.natCast_add,h,hx,hp,g1,hap,e1,hn])
     |ok r=>
      rw[ho] at hn;obtain⟨st',out',c1,c2,⟨c3,c4⟩|c4⟩:=hn
      ·exact⟨st',out',c1,c2,.inl ⟨c3,ax.of (by rw[qL];simp[-Int.natCast_add,h,hx,hp,g1,hap,e1,c4])⟩⟩
      ·exact⟨st',out',c1,c2,.inr (ax.of (by rw[qL];simp[-Int.natCast_add,h,hx,hp,g1,hap,e1,c4]))⟩
    ·have hn:=alg hl n (i+1) (i::st1) out1 (by omega) (by omega) hs2 (by have:=hin.2;simp at this ⊢;omega)
     rw[List.reverse_cons] at hn;cases ho:fZ (bZ l) l.length n (i+1) (i::st1) out1 with
     |error k=>rw[ho] at hn;exact ax.of (by rw[qL];simp[-Int.natCast_add,h,hx,hp,g1,hap,e1,hn])
     |ok r=>
      rw[ho] at hn;obtain⟨st',out',c1,c2,c4⟩:=hn;exact⟨st',out',c1,c2,.inr (ax.of (by rw[qL];simp[-Int.natCast_add,h,hx,hp,g1,hap,e1,c4]))⟩
  ·rw[if_neg h]
   exact⟨st,[],rfl,by simp;omega,.inl ⟨rfl,ax.of (by rw[qL];simp[h])⟩⟩
theorem ali:match fZ (bZ l) l.length l.length 0 [] [] with
  |.error k=>ev (Ci (iv 0) (iv l.length) (strs l) (strs l))=some (0,[nS,iv k,iv 112])
  |.ok r=>∃st' out',r=out'++st'∧st'.length+out'.length≤l.length∧(r=[]∧ev (Ci (iv 0) (iv l.length) (strs l) (strs l))=some (1,[nS,nS])∨out'=[]∧ev (Ci (iv 0) (iv l.length) (strs l) (strs l))=some (2,[fT st'.reverse,nS])∨ev (Ci (iv 0) (iv l.length) (strs l) (strs l))=some (3,[fT st'.reverse,fT out'])):=by
 by_cases h:0<l.length
 ·obtain⟨n,hn⟩:∃n,l.length=n+1:=⟨l.length-1,by omega⟩
  have hx:∀k',fB PG aK.fail 73 (.pv (strs l)) (.pv (iv 0)) k'=k' (.cptr [sv l[0]]):=fun k'=>cK (d:=aK.fail) (k:=k') (List.getElem?_eq_getElem h)
  have hp:=Nv (l:=l) h;have hz:ev (Xo (strs l) (iv (bZ l 0:Nat)) (iv (bO (bZ l 0):Nat)) (iv 0) (iv 0) (iv l.length) (strs l))=some (0,[nS,iv 0,iv 0,iv l.length,strs l,strs l,nS]):=ax.of (by rw[aiq];simp);have hap:=fun k'=>JA (d:=aK.fail) (kp:=k') (x:=0)
  have hn2:=alh hl n 1 [0] (by omega) (by omega) (by simp) (by simp);have e:fZ (bZ l) l.length l.length 0 [] []=fZ (bZ l) l.length n 1 [0] []:=by
   conv=>lhs;arg 3;rw[hn]
   rw[fZ,if_pos h];rfl
  rw[e];have w1:IntKind.i64.wrap 1=1:=aJ (by decide);have hap:∀k',lu PG aK.fail 47 (.pv (.lit (.slice none 0 0))) (.pv (.rows [[iv 0]])) k'=k' (fT [0]):=hap;simp only[List.reverse_cons,List.reverse_nil,List.nil_append,Int.natCast_one] at hn2;cases ho:fZ (bZ l) l.length n 1 [0] [] with
  |error k=>rw[ho] at hn2;exact ax.of (by rw[Iu];simp[h,hx,hp,hz,hap,w1,hn2])
  |ok r=>
   rw[ho] at hn2;obtain⟨st',out',c1,c2,⟨c3,c4⟩|c4⟩:=hn2
   ·exact⟨st',out',c1,c2,.inr (.inl ⟨c3,ax.of (by rw[Iu];simp[h,hx,hp,hz,hap,w1,c4])⟩)⟩
   ·exact⟨st',out',c1,c2,.inr (.inr (ax.of (by rw[Iu];simp[h,hx,hp,hz,hap,w1,c4])))⟩
 ·have hz:l.length=0:=by omega
  have e:fZ (bZ l) l.length l.length 0 [] []=.ok []:=by rw[hz];rfl
  rw[e];exact⟨[],[],rfl,by simp,.inl ⟨rfl,ax.of (by rw[Iu];simp[hz])⟩⟩
theorem VX:∀(rest done out:List Nat),rest.length+out.length≤l.length→ev (Xf (iv ((rest.length:Int)-1)) (fT (rest.reverse++done)) (fT out))=some (1,[fT (rest.reverse++done),fT (out++rest)])
 |[],done,out,h=>ax.of (by rw[Zt];simp)
 |t::rest,done,out,h=>by
  have ih:=VX rest (t::done) (out++[t]) (by simp at h ⊢;omega);have e0:IntKind.i64.wrap ((rest.length:Int)-1)=(rest.length:Int)-1:=aJ (by simp at h;omega);have hk:=fun k'=>iT (d:=aK.fail) (k:=k') (l:=rest.reverse++t::done) (i:=rest.length) (x:=t) (by rw[List.getElem?_append_right (by simp)];simp)
  have hap:=fun k'=>oU (d:=aK.fail) (kp:=k') (l:=out) (x:=t) (by simp at h;omega)
  have e2:((t::rest).length:Int)-1=(rest.length:Int):=by simp
  refine ax.of ?_;rw[e2,List.reverse_cons,List.append_assoc,List.singleton_append];rw[List.append_assoc,List.singleton_append] at ih;rw[Zt];simp[e0,hk,hap,ih]
theorem VY:∀(rest done out:List Nat),rest.length+out.length≤l.length→ev (Xg (iv ((rest.length:Int)-1)) (fT (rest.reverse++done)) (fT out))=some (3,[fT (rest.reverse++done),fT (out++rest)])
 |[],done,out,h=>ax.of (by rw[Zu];simp)
 |t::rest,done,out,h=>by
  have ih:=VY rest (t::done) (out++[t]) (by simp at h ⊢;omega);have e0:IntKind.i64.wrap ((rest.length:Int)-1)=(rest.length:Int)-1:=aJ (by simp at h;omega);have hk:=fun k'=>iT (d:=aK.fail) (k:=k') (l:=rest.reverse++t::done) (i:=rest.length) (x:=t) (by rw[List.getElem?_append_right (by simp)];simp)
  have hap:=fun k'=>oU (d:=aK.fail) (kp:=k') (l:=out) (x:=t) (by simp at h;omega)
  have e2:((t::rest).length:Int)-1=(rest.length:Int):=by simp
  refine ax.of ?_;rw[e2,List.reverse_cons,List.append_assoc,List.singleton_append];rw[List.append_assoc,List.singleton_append] at ih;rw[Zu];simp[e0,hk,hap,ih]
theorem agJ(st out:List Nat)(h:st.length+out.length≤l.length):ev (Xh (iv ((st.length:Int)-1)) (fT out) (fT st.reverse))=some (if st=[] then(0,[fT out,fT st.reverse]) else(1,[fT st.reverse,fT (out++st)])):=by
 cases st with
 |nil=>exact ax.of (by rw[Zv];simp)
 |cons t rest=>
  have ih:=VX hl rest [t] (out++[t]) (by simp at h ⊢;omega);have e0:IntKind.i64.wrap ((rest.length:Int)-1)=(rest.length:Int)-1:=aJ (by simp at h;omega);have hk:=fun k'=>iT (d:=aK.fail) (k:=k') (l:=rest.reverse++[t]) (i:=rest.length) (x:=t) (tT t rest)
  have hap:=fun k'=>oU (d:=aK.fail) (kp:=k') (l:=out) (x:=t) (by simp at h;omega)
  have e2:((t::rest).length:Int)-1=(rest.length:Int):=by simp
  refine ax.of ?_;rw[e2,List.reverse_cons];rw[List.append_assoc,List.singleton_append] at ih;rw[Zv];simp[e0,hk,hap,ih]
theorem agK(st:List Nat)(h:st.length≤l.length):ev (Xi (iv ((st.length:Int)-1)) (fT st.reverse))=some (if st=[] then(1,[fT st.reverse,nS]) else(3,[fT st.reverse,fT st])):=by
 cases st with
 |nil=>exact ax.of (by rw[Zw];simp)
 |cons t rest=>
  have ih:=VY hl rest [t] [t] (by simp at h ⊢;omega);have e0:IntKind.i64.wrap ((rest.length:Int)-1)=(rest.length:Int)-1:=aJ (by simp at h;omega);have hk:=fun k'=>iT (d:=aK.fail) (k:=k') (l:=rest.reverse++[t]) (i:=rest.length) (x:=t) (tT t rest)
  have hap:=fun k'=>JA (d:=aK.fail) (kp:=k') (x:=t)
  have e2:((t::rest).length:Int)-1=(rest.length:Int):=by simp
  refine ax.of ?_;rw[e2,List.reverse_cons];rw[Zw];simp[e0,hk,hap,ih]
def afm(p:PV)(r:List Nat):Prop:=p=fT r∨r=[]∧p=nS
theorem Hg:match fZ (bZ l) l.length l.length 0 [] [] with
  |.error k=>ev (q72 (strs l))=some (0,[nS,iv k,iv 112])
  |.ok r=>r.length≤l.length∧∃p,afm p r∧ev (q72 (strs l))=some (0,[p,iv 0,iv 0]):=by
 have h:=ali hl;cases ho:fZ (bZ l) l.length l.length 0 [] [] with
 |error k=>rw[ho] at h;exact ax.of (by rw[h72];simp[h])
 |ok r=>
  rw[ho] at h;obtain⟨st,out,rfl,c2,c⟩:=h;refine⟨by simp;omega,?_⟩;have e0:IntKind.i64.wrap ((st.length:Int)-1)=(st.length:Int)-1:=aJ (by omega);rcases c with⟨c3,c4⟩|⟨c3,c4⟩|c4
  ·have t0:ev (Xj (iv (-1)))=some (0,[nS]):=ax.of (by rw[aip];simp)
   exact⟨nS,.inr ⟨c3,rfl⟩,ax.of (by rw[h72];simp[c4,t0])⟩
  ·subst c3
   have ht:=agK hl st (by omega);by_cases hs:st=[]
   ·subst hs;exact⟨nS,.inr ⟨rfl,rfl⟩,ax.of (by rw[h72];simp at ht;simp[c4,ht,aJ])⟩
   ·rw[if_neg hs] at ht
    exact⟨fT st,.inl rfl,ax.of (by rw[h72];simp[c4,ht,e0])⟩
  ·have ht:=agJ hl st out (by omega)
   by_cases hs:st=[]
   ·subst hs;exact⟨fT out,.inl (by simp),ax.of (by rw[h72];simp at ht;simp[c4,ht,aJ])⟩
   ·rw[if_neg hs] at ht
    exact⟨fT (out++st),.inl rfl,ax.of (by rw[h72];simp[c4,ht,e0])⟩
end
set_option maxRecDepth 10000
def FnR{α:Type}(F:Nat→α)(fl:List α):Prop:=∀j,j<fl.length→fl[j]? = some (F j)
theorem FnR.set{α:Type}{F:Nat→α}{fl:List α}(h:FnR F fl)(x:Nat)(v:α):FnR (upd F x v) (fl.set x v):=by
 intro j hj;rw[List.length_set] at hj;rw[List.getElem?_set];by_cases hx:x=j
 ·subst hx;rw[if_pos rfl,if_pos hj,BH]
 ·rw[if_neg hx,upd_ne _ _ (fun h=>hx h.symm)];exact h j hj
theorem Rt.lt{F:Nat→Nat}{j a m:Nat}(h:Rt F j a)(hF:∀j,j<m→F j<m):j<m→a<m:=by
 induction h with
 |here a h=>exact id
 |go j a h r ih=>exact fun hj=>ih (hF j hj)
theorem Sn{c:List PV}(h:c.length=11):∃x0 x1 x2 x3 x4 x5 x6 x7 x8 x9 x10,c=[x0,x1,x2,x3,x4,x5,x6,x7,x8,x9,x10]:=by
 match c,h with
 |[x0,x1,x2,x3,x4,x5,x6,x7,x8,x9,x10],_=>exact⟨x0,x1,x2,x3,x4,x5,x6,x7,x8,x9,x10,rfl⟩
def EC(A:Nat→Ex)(B:List (List PV)):Prop:=∀j,j<B.length→∃c,B[j]? = some c∧Aq (A j) c
theorem EC.exs(l:List Ex):EC (uK l) (l.map Ex.cells):=by
 intro j hj;rw[List.length_map] at hj;refine⟨eD (uK l j),?_,.plain _⟩;rw[List.getElem?_map,List.getElem?_eq_getElem hj];unfold uK;rw[List.getElem?_eq_getElem hj];simp[Ex.cells_eq]
theorem EC.set{A:Nat→Ex}{B:List (List PV)}(h:EC A B)(x:Nat){v:Ex}{c:List PV}(hc:Aq v c):EC (upd A x v) (B.set x c):=by
 intro j hj;rw[List.length_set] at hj;rw[List.getElem?_set];by_cases hx:x=j
 ·subst hx;rw[if_pos rfl,if_pos hj,BH];exact⟨c,rfl,hc⟩
 ·rw[if_neg hx,upd_ne _ _ (fun h=>hx h.symm)];exact h j hj
theorem EC.ns{A:Nat→Ex}{B:List (List PV)}(h:EC A B):NS (.rows B):=.rows _ fun c hc=>by
 obtain⟨j,hj,rfl⟩:=List.getElem_of_mem hc;obtain⟨c,h1,h2⟩:=h j hj;rw[List.getElem?_eq_getElem hj] at h1;cases h1;exact h2.n
theorem Aq.wk{e:Ex}{c:List PV}(h:Aq e c):Aq e (nI c):=by
 refine⟨?_,by rw[BD];exact h.l,F6 h.n⟩;have:∀l,dD (nI l)=dD l:=by
  intro l
  induction l with
  |nil=>rfl
  |cons p l ih=>rw[nI,tL,tL,ih,F7]
 rw[this];exact h.w
section
variable{β:Type}{d:β}{kp:PV→β}{A:Nat→Ex}{B:List (List PV)}
theorem abV{i:Nat}{v:Ex}{c:List PV}(hB:EC A B)(hc:Aq v c)(h:i<B.length):Gl d (.rows B) (.lit (.int .i64 (i:Int))) 0 c kp=kp (.rows (B.set i c)):=by
 obtain⟨c0,h1,h2⟩:=hB i h;have hg:B.getD i []=c0:=by rw[List.getD_eq_getElem?_getD,h1];rfl
 have hs:setAt c0 0 c=c:=by
  unfold setAt;rw[List.take_zero,List.nil_append,List.drop_of_length_le (by rw[h2.l,hc.l];exact Nat.le_refl _),List.append_nil]
 refine kP (lC (fun w=>?_) (hB.set i hc).ns);constructor
 ·rintro⟨es,n,kd,g1,g2,g3,g4,g5,rfl,_⟩
  cases g1;cases g2;rw[Int.toNat_natCast,hg,hs]
 ·rintro rfl
  refine⟨_,_,_,rfl,rfl,by omega,by rw[Int.toNat_natCast];exact h,?_,?_,CP (hB.set i hc).ns⟩
  ·rw[Int.toNat_natCast,hg,h2.l,hc.l];exact Nat.le_refl 11
  ·rw[Int.toNat_natCast,hg,hs]
theorem Ik{k:AV→β}{i:Nat}{v:Ex}{c:List PV}(h1:B[i]? = some c)(h2:Aq v c):fB PG d 51 (.pv (.rows B)) (.pv (.lit (.int .i64 (i:Int)))) k=k (.cptr c):=
 gW (fun _=>jG vz h1 h2.l) (nP h2.n)
end
theorem Yr(t:Tk){x y:Ex}{x0 x1 x2 x3 x4 x5 x6 x7 x8 x9 x10 y0 y1 y2 y3 y4 y5 y6 y7 y8 y9 y10:PV}(hx:Aq x [x0,x1,x2,x3,x4,x5,x6,x7,x8,x9,x10])(hy:Aq y [y0,y1,y2,y3,y4,y5,y6,y7,y8,y9,y10]):∃zs,ev (akC (iv t.kind) (sv t.text) (iv t.n) (iv t.at_) x0 x1 x2 x3 x4 x5 x6 x7 x8 x9 x10 y0 y1 y2 y3 y4 y5 y6 y7 y8 y9 y10)=some (0,zs)∧Aq (opE t x y) zs:=by
 obtain⟨zs,h1,h2⟩:=acO t hx hy;exact⟨nI zs,ax.of (by rw[aqf];simp[h1]),h2.wk⟩
section
variable{ops:List Tk}{F:Nat→Nat}{fl:List Nat}
theorem aoL(hF:FnR F fl)(hin:∀j,j<fl.length→F j<fl.length){j a:Nat}(h:Rt F j a)(c e f g i all:PV):j<fl.length→
  ev (QF (iv j) (ops.map Tk.cells) c e f g i (fT fl) all)=some (0,fT fl::all::(zE++[iv a,.rows (ops.map Tk.cells),c,e,f,g,i])):=by
 induction h with
 |here a h=>
  intro hj;have hx:=fun k'=>iT (d:=aK.fail) (k:=k') (hF a hj)
  refine ax.of ?_;rw[SN];simp[hx,eq_true (show ((F a:Nat):Int)=(a:Int) by rw[h])]
 |go j a h r ih=>
  intro hj;have hx:=fun k'=>iT (d:=aK.fail) (k:=k') (hF j hj)
  have ih:=ih (hin j hj);refine ax.of ?_;rw[SN];simp[hx,eq_false (show ¬((F j:Nat):Int)=(j:Int) by omega),ih]
theorem aj1{r:List Nat}{F F':Nat→Nat}{A A':Nat→Ex}(h:Run ops r F A F' A'):∀(pre fl:List Nat) (B:List (List PV)),FnR F fl→EC A B→fl.length=B.length→fl.length=ops.length+1→(∀j,j<fl.length→F j<fl.length)→(∀x∈r,x<ops.length)→ops.length≤1000000→pre.length+r.length≤1000000→
  ∃fl' B',EC A' B'∧B'.length=B.length∧ev (GA (iv pre.length) (iv (pre++r).length) (fT (pre++r)) (ops.map Tk.cells) (fT fl) (.rows B))=some (0,fT fl' :: .rows B'::(zE++[.rows (ops.map Tk.cells)])):=by
 induction h with
 |nil F A=>
  intro pre fl B hF hA hl hn hin hr ho hp;refine⟨fl,B,hA,rfl,ax.of ?_⟩;rw[SQ];simp
 |cons i a r F F' A A' h hr2 ih=>
  intro pre fl B hF hA hl hn hin hr ho hp;have hi:=hr i (by simp);have ha:a<fl.length:=h.lt hin (by omega);have hin2:∀j,j<fl.length→upd F (i+1) a j<fl.length:=fun j hj=>by
   unfold upd;split
   ·exact ha
   ·exact hin j hj
  obtain⟨ca,a1,a2⟩:=hA a (by omega);obtain⟨ci,b1,b2⟩:=hA (i+1) (by omega);obtain⟨x0,x1,x2,x3,x4,x5,x6,x7,x8,x9,x10,rfl⟩:=Sn a2.l;obtain⟨y0,y1,y2,y3,y4,y5,y6,y7,y8,y9,y10,rfl⟩:=Sn b2.l;obtain⟨zs,hz1,hz2⟩:=Yr (opAt ops i) a2 b2;obtain⟨z0,z1,z2,z3,z4,z5,z6,z7,z8,z9,z10,rfl⟩:=Sn hz2.l;obtain⟨fl',B',c1,c2,c3⟩:=ih (pre++[i]) (fl.set (i+1) a) (B.set a [z0,z1,z2,z3,z4,z5,z6,z7,z8,z9,z10]) (hF.set _ _) (hA.set _ hz2) (by simp[hl]) (by simpa using hn) (by simpa using hin2) (fun x hx=>hr x (by simp[hx])) ho (by simp at hp ⊢;omega);refine⟨fl',B',c1,by simpa using c2,ax.of ?_⟩;have e1:IntKind.i64.wrap ((pre.length:Int)+1)=((pre.length+1:Nat):Int):=by rw[aJ (by omega)];omega
  have e2:IntKind.i64.wrap ((i:Int)+1)=((i+1:Nat):Int):=by rw[aJ (by omega)];omega
  have hk:=fun k'=>iT (d:=aK.fail) (k:=k') (l:=pre++i::r) (i:=pre.length) (x:=i) (by rw[List.getElem?_append_right (by simp)];simp)
  have hrt:=aoL (ops:=ops) hF hin h (iv i) (iv (i+1:Nat)) (iv pre.length) (iv (pre++i::r).length) (fT (pre++i::r)) (.rows B) (by omega);have hop:∀k',fB PG aK.fail 66 (.pv (.rows (ops.map Tk.cells))) (.pv (.lit (.int .i64 (i:Int)))) k'=k' (.cptr [iv (opAt ops i).kind,sv (opAt ops i).text,iv (opAt ops i).n,iv (opAt ops i).at_]):=fun k'=>dV (d:=aK.fail) (k:=k') (uk hi)
  have hxa:=fun k'=>Ik (d:=aK.fail) (k:=k') a1 a2
  have hxi:=fun k'=>Ik (d:=aK.fail) (k:=k') b1 b2
  have hse:=fun k'=>abV (d:=aK.fail) (kp:=k') (i:=a) hA hz2 (by omega)
  have hfi:=fun k'=>iT (d:=aK.fail) (k:=k') (hF (i+1) (by omega))
  have hsf:=fun k'=>Gj (d:=aK.fail) (kp:=k') (l:=fl) (i:=i+1) (x:=a) (by omega)
  have e3:(pre++[i]).length=pre.length+1:=by simp
  rw[e3,List.append_assoc,List.singleton_append] at c3;rw[SQ];have hlt:(pre.length:Int)<((pre++i::r).length:Int):=by simp;omega
  generalize (pre++i::r).length=len at *;generalize pre++i::r=ord at *;simp[-Int.natCast_add,hlt,hk,e2,hrt];simp[-Int.natCast_add,hop,hxa,hxi,hz1,hse,hfi,hsf,e1,c3]
theorem aeJ(ops:List Tk)(p all:PV)(len:Nat)(hlen:len≤1000001):∀(n i:Nat) (fl:List Nat),len-i≤n→i≤len→fl.length=len→(∀j,j<i→fl[j]? = some j)→
  ∃fl',fl'.length=len∧FnR (fun j=>j) fl'∧ev (GD (iv i) (iv len) p (ops.map Tk.cells) (fT fl) all)=some (0,fT fl'::all::(zE++[p,.rows (ops.map Tk.cells)])):=by
 intro n
 induction n with
 |zero=>
  intro i fl hn hi hl hf;refine⟨fl,hl,fun j hj=>hf j (by omega),ax.of ?_⟩;rw[Iz];simp[show ¬i<len by omega]
 |succ n ih=>
  intro i fl hn hi hl hf;by_cases h:i<len
  ·obtain⟨fl',c1,c2,c3⟩:=ih (i+1) (fl.set i i) (by omega) (by omega) (by simpa using hl) (fun j hj=>by
    rw[List.getElem?_set];by_cases hx:i=j
    ·subst hx;rw[if_pos rfl,if_pos (by omega)]
    ·rw[if_neg hx];exact hf j (by omega))
   have e1:IntKind.i64.wrap ((i:Int)+1)=((i+1:Nat):Int):=by rw[aJ (by omega)];omega
   have hx:=fun k'=>iT (d:=aK.fail) (k:=k') (List.getElem?_eq_getElem (show i<fl.length by omega))
   have hsf:=fun k'=>Gj (d:=aK.fail) (kp:=k') (l:=fl) (i:=i) (x:=i) (by omega)
   refine⟨fl',c1,c2,ax.of ?_⟩;rw[Iz];simp[-Int.natCast_add,h,hx,hsf,e1,c3]
  ·refine⟨fl,hl,fun j hj=>hf j (by omega),ax.of ?_⟩
   rw[Iz];simp[h]
end
set_option maxRecDepth 10000
def af0(L:List Tk)(a:Nat)(d:Int)(v:List Ex×List Tk)(b:Nat)(z:Rs):Prop:=a≤b∧v.1.length=v.2.length+1∧(v.2≠[]∧v.2.length≤b)∧z=(3,ps L b d (zE++[exs v.1,.rows ((v.2.map Tk.text).map fun s=>[sv s]),.rows (v.2.map Tk.cells)]))
def aln(L:List Tk)(x:Ex)(a:Nat)(d:Int)(v:List Ex×List Tk)(b:Nat)(z:Rs):Prop:=v=([x],[])∧a≤b∧z=(1,ps L b d (exs [x]::(zE++[nS,nS])))∨af0 L a d v b z
section
variable{L:List Tk}(hW:F3 L)
include hW
theorem ajS{n:Nat}(ihO:∀m,m≤n→Pa L (pOp L) eD (fE L m)):∀(m:Nat),m≤n→∀(l:List Ex) (o:List Tk) (a:Nat) (d:Int),l.length=o.length+1→o≠[]∧o.length≤a→0≤d→d≤300→a<L.length→
  nY L (QH (o.map Tk.cells) ((o.map Tk.text).map fun s=>[sv s]) (aW L) (iv a) (iv d) (exs l)) (o9 L m l o d a) (af0 L a d)
  (fun e x z=>∃(b:Nat) (d':Int),z=(2,ps L b d' (zE++[iv e,iv x]))):=by
 intro m hm
 induction m with
 |zero=>intro l o a d hl hb h0 h1 ha;rw[o9];trivial
 |succ m ih=>
  intro l o a d hl ⟨hne,hb⟩ h0 h1 ha;refine .of ?_;rw[o9.eq_2,aen];have hLl:=hW.len;refine .kind (fun k5=>?_) (fun k5=>?_)
  ·refine .takeK (by decide) (fun _=>?_) (fun h=>absurd k5 h)
   have hl1:=hW.fin a (by omega);have m2:(o++[ai L a]).map Tk.cells=o.map Tk.cells++[[iv (ai L a).kind,sv (ai L a).text,iv (ai L a).n,iv (ai L a).at_]]:=by rw[List.map_append,List.map_cons,List.map_nil,Tk.cells]
   have m3:((o++[ai L a]).map Tk.text).map (fun x=>[sv x])=(o.map Tk.text).map (fun x=>[sv x])++[[sv (ai L a).text]]:=by rw[List.map_append,List.map_append,List.map_cons,List.map_nil,List.map_cons,List.map_nil]
   have a1:=fun k'=>aN (P:=PG) (d:=.fail) (k:=k') yF (Pp o) (c:=[iv (ai L a).kind,sv (ai L a).text,iv (ai L a).n,iv (ai L a).at_]) rfl (by simp) (by simp;omega) (by decide)
   have a2:=fun k'=>aN (P:=PG) (d:=.fail) (k:=k') J7 (l9 (o.map Tk.text)) (c:=[sv (ai L a).text]) rfl (by simp) (by simp;omega) (by decide)
   have hln:∀(k:AV→aK),gm PG .fail 66 (.pv (.rows (o.map Tk.cells++[[iv (ai L a).kind,sv (ai L a).text,iv (ai L a).n,iv (ai L a).at_]]))) k=k (.pv (iv (o.length+1:Nat))):=fun k=>by
    rw[eO (fun _=>iL yF _) (bq _)];simp
   have hix:∀(k:AV→aK),fB PG .fail 66 (.pv (.rows (o.map Tk.cells++[[iv (ai L a).kind,sv (ai L a).text,iv (ai L a).n,iv (ai L a).at_]]))) (.pv (.lit (.int .i64 (o.length:Int)))) k=k (.cptr [iv (ai L a).kind,sv (ai L a).text,iv (ai L a).n,iv (ai L a).at_]):=fun k=>by
    have:=dV (d:=aK.fail) (k:=k) (l:=o++[ai L a]) (i:=o.length) (x:=ai L a) (by rw[List.getElem?_append_right (Nat.le_refl _)];simp);rw[aW,m2] at this;exact this
   have e0:IntKind.i64.wrap (((o.length+1:Nat):Int)-1)=(o.length:Int):=by rw[aJ (by omega)];omega
   simp[-Int.natCast_add,-List.map_map,d9 ha,Tk.cells,eq_true k5,ou hW ha];simp only[a1,a2,hln,hix];simp[-Int.natCast_add,-List.map_map,a1,a2,hln,hix,e0];refine .callW (ihO m (by omega) (a+1) d h0 h1 hl1) (fun v b hb2 hab g=>?_) (fun e x b d' g=>?_)
   ·have a3:=fun k'=>aN (P:=PG) (d:=.fail) (k:=k') vz (oo l) (c:=eD v) rfl (by simp) (by simp;omega) (by decide)
    have m1:(l++[v]).map Ex.cells=l.map Ex.cells++[eD v]:=by rw[List.map_append,List.map_cons,List.map_nil,Ex.cells_eq]
    have hn:=ih (by omega) (l++[v]) (o++[ai L a]) b d (by simp[hl]) ⟨by simp,by simp;omega⟩ h0 h1 hb2;rw[m2,m3,exs,m1] at hn;simp[-Int.natCast_add,-List.map_map,g];rw[exs];simp only[a3];cases hr:o9 L m (l++[v]) (o++[ai L a]) d b with
    |out=>trivial
    |err e x=>rw[hr] at hn;obtain⟨z,g1,b3,d',rfl⟩:=hn;exact⟨_,by simp[-List.map_map,g1],b3,d',rfl⟩
    |ok v2 b3=>rw[hr] at hn;obtain⟨hb3,z,g1,h5,h6,h7,rfl⟩:=hn;exact⟨hb3,_,by simp[-List.map_map,g1],by omega,h6,h7,rfl⟩
   ·exact⟨_,by simp[-Int.natCast_add,-List.map_map,g],b,d',rfl⟩
  ·exact .pure ha (by simp[-List.map_map,d9 ha,Tk.cells,k5]) ⟨Nat.le_refl _,hl,⟨hne,hb⟩,rfl⟩
theorem ag0{n:Nat}(ihO:∀m,m≤n→Pa L (pOp L) eD (fE L m))(m:Nat)(hm:m≤n)(x:Ex)(a:Nat)(d:Int)(h0:0≤d)(h1:d≤300)(ha:a<L.length) :
  nY L (QI (aW L) (iv a) (iv d) (exs [x])) (o9 L m [x] [] d a) (aln L x a d)
  (fun e y z=>∃(b:Nat) (d':Int),z=(0,ps L b d' (exs [x]::(zE++[iv e,iv y])))∨z=(2,ps L b d' (zE++[iv e,iv y]))):=by
 cases m with
 |zero=>rw[o9];trivial
 |succ m=>
  refine .of ?_;rw[o9.eq_2,aeo];have hLl:=hW.len;refine .kind (fun k5=>?_) (fun k5=>?_)
  ·refine .takeK (by decide) (fun _=>?_) (fun h=>absurd k5 h)
   have hl1:=hW.fin a (by omega);simp[-Int.natCast_add,-List.map_map,d9 ha,Tk.cells,eq_true k5,ou hW ha];refine .callW (ihO m (by omega) (a+1) d h0 h1 hl1) (fun v b hb2 hab g=>?_) (fun e y b d' g=>?_)
   ·have a3:=fun k'=>aN (P:=PG) (d:=.fail) (k:=k') vz (oo [x]) (c:=eD v) rfl (by simp) (by simp) (by decide)
    have m1:([x]++[v]).map Ex.cells=[x].map Ex.cells++[eD v]:=by rw[List.map_append,List.map_cons,List.map_nil,List.map_cons,List.map_nil,Ex.cells_eq v]
    have hn:=ajS hW ihO m (by omega) ([x]++[v]) [ai L a] b d (by simp) ⟨by simp,by simp;omega⟩ h0 h1 hb2;rw[exs,m1] at hn;simp only[List.map_cons,List.map_nil,Tk.cells] at hn;simp[-Int.natCast_add,-List.map_map,g];rw[exs];simp only[List.map_cons,List.map_nil] at a3 hn ⊢;simp only[a3];cases hr:o9 L m ([x]++[v]) [ai L a] d b with
    |out=>simp only[List.cons_append,List.nil_append] at hr;rw[hr];trivial
    |err e y=>rw[hr] at hn;simp only[List.cons_append,List.nil_append] at hr;rw[hr];obtain⟨z,g1,b3,d',rfl⟩:=hn;simp only[List.cons_append,List.nil_append] at g1;exact⟨_,by simp[-List.map_map,g1],b3,d',.inr rfl⟩
    |ok v2 b3=>rw[hr] at hn;simp only[List.cons_append,List.nil_append] at hr;rw[hr];obtain⟨hb3,z,g1,h5,h6,h7,rfl⟩:=hn;simp only[List.cons_append,List.nil_append] at g1;exact⟨hb3,_,by simp[-List.map_map,g1],.inr ⟨by omega,h6,h7,rfl⟩⟩
   ·exact⟨_,by simp[-Int.natCast_add,-List.map_map,g],b,d',.inl rfl⟩
  ·exact .pure ha (by simp[-List.map_map,d9 ha,Tk.cells,k5]) (.inl ⟨rfl,Nat.le_refl _,rfl⟩)
omit hW in
theorem Cq(V:Nat→Nat):∀(n f to:Nat),f≤to→∀t∈oq V n f to,f≤t∧t<to
 |0,f,to,h,t,ht=>by simp[oq] at ht
 |n+1,f,to,h,t,ht=>by
  rw[oq] at ht;split at ht
  ·simp at ht
  ·rename_i hf
   have hl:=ny V (f:=f) (to:=to) (by omega);rcases List.mem_append.1 ht with ht|ht
   ·rcases List.mem_append.1 ht with ht|ht
    ·have:=Cq V n f _ hl.1 t ht;omega
    ·have:=Cq V n _ to (by omega) t ht;omega
   ·rw[List.mem_singleton.1 ht];exact hl
omit hW in
theorem amj{l:List Ex}{o:List Tk}(hl:l.length=o.length+1)(ho:o.length≤1000000)(hc:iE (Au o) o.length o.length 0=none) :
  ∃(p:PV) (r:List Nat) (fl fl':List Nat) (B:List (List PV)) (c:List PV),afm p r∧r.length≤o.length∧
   ev (q72 (.rows ((o.map Tk.text).map fun s=>[sv s])))=some (0,[p,iv 0,iv 0])∧
   ev (GD (iv 0) (iv (o.length+1:Nat)) p (o.map Tk.cells) (fT (List.replicate (o.length+1) 0)) (exs l))=some (0,fT fl::exs l::(zE++[p,.rows (o.map Tk.cells)]))∧
   (o≠[]→p=fT r∧ev (GA (iv 0) (iv r.length) (fT r) (o.map Tk.cells) (fT fl) (exs l))=some (0,fT fl' :: .rows B::(zE++[.rows (o.map Tk.cells)])))∧
   (o≠[]→B[0]? = some c∧Aq (fJ l o o.length 0 o.length) c):=by
 have ht:=Hg (l:=o.map Tk.text) (by simpa using ho);have hor:=Cy (bZ (o.map Tk.text)) o.length o.length 0 (Nat.zero_le _) (by omega);have e1:yE (bZ (o.map Tk.text)) 0 0 0=[]:=rfl;have e2:Nz (bZ (o.map Tk.text)) 0 0 0=[]:=rfl;rw[e1,e2,wH ho,hc] at hor;rw[wH ho,List.length_map,hor] at ht;obtain⟨h1,p,h2,h3⟩:=ht;obtain⟨fl,f1,f2,f3⟩:=aeJ o p (exs l) (o.length+1) (by omega) (o.length+1) 0 (List.replicate (o.length+1) 0) (by omega) (Nat.zero_le _) (by simp) (fun j hj=>by omega);obtain⟨F',A',r1,r2,r3,r4⟩:=acj l o o.length 0 o.length (fun j=>j) (uK l) (Nat.zero_le _) (by omega) (fun j _ _=>⟨rfl,rfl⟩);obtain⟨fl',B,b1,b2,b3⟩:=aj1 r1 [] fl (l.map Ex.cells) f2 (EC.exs l) (by rw[f1,List.length_map,hl]) f1 (fun j hj=>hj) (fun x hx=>(Cq _ _ _ _ (Nat.zero_le _) x hx).2) ho (by simp;omega);obtain⟨c,c1,c2⟩:=b1 0 (by rw[b2,List.length_map];omega);rw[r3] at c2;refine⟨p,_,fl,fl',B,c,h2,h1,h3,f3,fun ho=>?_,fun _=>⟨c1,c2⟩⟩;rcases h2 with rfl|⟨h4,rfl⟩
 ·exact⟨rfl,b3⟩
 ·exfalso
  have:0<o.length:=List.length_pos_iff.2 ho;rw[Np (Au o) this] at h4;simp at h4
omit hW in
theorem YU{β:Type}{d:β}{k:AV→β}{p:PV}{r:List Nat}(h:afm p r):gm PG d 47 (.pv p) k=k (.pv (iv r.length)):=by
 rcases h with rfl|⟨rfl,rfl⟩
 ·simp
 ·exact eO (fun r=>by
   have h:∀ty,gK PG .len #[47] ty [.pv nS]=some (.pv (.lit (.int .i64 0))):=fun ty=>by kernel_rfl
   constructor
   ·intro hr
    have h1:=hr 0;rw[h 0] at h1;exact(Option.some.inj h1).symm
   ·rintro rfl;exact h) (bq _)
omit hW in
theorem YV{β:Type}{d:β}{k:AV→β}(x:Ex):gm PG d 51 (.pv (exs [x])) k=k (.pv (iv 1)):=by
 rw[exs,eO (fun _=>iL vz _) (bq _)];simp
omit hW in
theorem ami:∃p,afm p []∧ev (q72 (.rows []))=some (0,[p,iv 0,iv 0]):=by
 have h:=Hg (l:=[]) (by simp);have e:fZ (bZ []) ([]:List ByteArray).length ([]:List ByteArray).length 0 [] []=.ok []:=rfl;rw[e] at h;exact h.2
omit hW in
theorem amk(p:PV)(x:Ex):ev (GH (iv 0) (iv 1) p (fT [0]) (exs [x]))=some (0,fT [0]::exs [x]::(zE++[p,nS]))∧ev (QG (iv 0) (iv 0) p (fT [0]) (exs [x]))=some (0,fT [0]::exs [x]::zE):=by
 constructor
 ·have h1:ev (GH (iv 1) (iv 1) p (fT [0]) (exs [x]))=some (0,fT [0]::exs [x]::(zE++[p,nS])):=ax.of (by rw[SV];simp)
  have hx:∀(k':AV→aK),fB PG aK.fail 47 (.pv (fT [0])) (.pv (iv 0)) k'=k' (.cptr [iv 0]):=fun k'=>iT (d:=aK.fail) (k:=k') (l:=[0]) (i:=0) (x:=0) rfl
  have hs:∀(k':PV→aK),Gl aK.fail (fT [0]) (iv 0) 0 [iv 0] k'=k' (fT [0]):=fun k'=>Gj (d:=aK.fail) (kp:=k') (l:=[0]) (i:=0) (x:=0) (by simp)
  have w1:IntKind.i64.wrap 1=1:=aJ (by decide);exact ax.of (by rw[SV];simp[hx,hs,w1,h1])
 ·exact ax.of (by rw[aem];simp)
theorem ajU{n:Nat}(ihO:∀m,m≤n→Pa L (pOp L) eD (fE L m)):Pa L (R5 L) eD (fG L (n+1)):=by
 intro a d h0 h1 ha;refine .weak (al1 ev _ _ _) (.of ?_);rw[fG.eq_2,aqC];have hLl:=hW.len;simp[Ny hW ha h0 h1];refine .deep (fun hd=>?_) (fun hd=>?_)
 ·exact⟨_,by simp[hd],.of (m:=[1,0]) (b:=a) (d:=d+1) (k:=0) rfl⟩
 ·simp[hd]
  have hw:IntKind.i64.wrap d=d:=aJ (by omega);refine .callW (ihO n (Nat.le_refl _) a (d+1) (by omega) (by omega) ha) (fun x b hb hab g=>?_) (fun e y b d' g=>?_)
  ·simp[g]
   have hapx:=fun k'=>aN (P:=PG) (d:=.fail) (k:=k') vz (Raw.nil 11) (c:=eD x) rfl (by simp) (by simp) (by decide)
   simp only[hapx,List.nil_append];refine .bind (ag0 hW ihO n (Nat.le_refl _) x b (d+1) (by omega) (by omega) hb) (fun v b2 z hb2 g2 hz=>?_) (fun e y z g2 hz=>?_)
   ·rcases hz with⟨rfl,h5,rfl⟩|⟨h5,h6,h7,rfl⟩
    ·obtain⟨p,p1,p2⟩:=ami
     obtain⟨q1,q2⟩:=amk p x;have hlp:∀(k':AV→aK),gm PG aK.fail 47 (.pv p) k'=k' (.pv (iv 0)):=fun k'=>by simpa using YU (d:=aK.fail) (k:=k') p1
     have hm:∀(k':PV→aK),mkK PG aK.fail 47 (.pv (iv 1)) k'=k' (fT [0]):=fun k'=>YL (d:=aK.fail) (kp:=k') (n:=1) (by decide)
     have hx:∀(k':AV→aK),fB PG aK.fail 51 (.pv (exs [x])) (.pv (iv 0)) k'=k' (.cptr (eD x)):=fun k'=>sM (d:=aK.fail) (k:=k') (l:=[x]) (i:=0) (x:=x) rfl
     have hL1:∀(k':AV→aK),gm PG aK.fail 51 (.pv (exs [x])) k'=k' (.pv (iv 1)):=fun k'=>YV x
     have he1:exs [x]=.rows [eD x]:=eP x;rw[he1] at q1 q2 hx hL1 g2;simp only[zE,ps,List.cons_append,List.nil_append] at q1 q2 g2;show nX L (aS x (d+1) b2) (okW L a d [1,0] eD) (erW L [1,0]) _;exact .pure hb2 (by simp[g2,p2,hL1,hm,q1,hlp,q2,hx,hw]) (.of (m:=[1,0]) (k:=1) (ys:=eD x) (by omega) rfl (by simp))
    ·obtain⟨l,o⟩:=v
     obtain⟨hne,h7⟩:=h7;simp only at h6 hne h7 g2 ⊢;have hlo:∀(k':AV→aK),gm PG aK.fail 51 (.pv (exs l)) k'=k' (.pv (iv (o.length+1:Nat))):=fun k'=>by rw[exs,eO (fun _=>iL vz _) (bq _),List.length_map,h6]
     simp only[ps,List.cons_append,List.nil_append] at g2;rw[eP] at g2;unfold qQ;cases hcl:iE (Au o) o.length o.length 0 with
     |some k=>
      have ht:=Hg (l:=o.map Tk.text) (by simp;omega);have hor:=Cy (bZ (o.map Tk.text)) o.length o.length 0 (Nat.zero_le _) (by omega);have e1:yE (bZ (o.map Tk.text)) 0 0 0=[]:=rfl;have e2:Nz (bZ (o.map Tk.text)) 0 0 0=[]:=rfl;rw[e1,e2,wH hLl,hcl] at hor;rw[wH hLl,List.length_map,hor] at ht;have hk:k<o.length:=zl hLl _ _ _ _ _ hcl;have hop:∀k',fB PG aK.fail 66 (.pv (.rows (o.map Tk.cells))) (.pv (.lit (.int .i64 (k:Int)))) k'=k' (.cptr [iv (opAt o k).kind,sv (opAt o k).text,iv (opAt o k).n,iv (opAt o k).at_]):=fun k'=>dV (d:=aK.fail) (k:=k') (uk hk)
      have ht:ev (q72 (.rows ((o.map Tk.text).map fun s=>[sv s])))=some (0,[nS,iv k,iv 112]):=ht;generalize hG:o.map Tk.cells=G at *;generalize hT:(o.map Tk.text).map (fun s=>[sv s])=T at *;exact⟨_,by simp[-Int.natCast_add,g2,ht,hop,nO hW,hw],.of (m:=[1,0]) (b:=b2) (d:=d) (k:=0) rfl⟩
     |none=>
      obtain⟨p,r,fl,fl',B,c,p1,p2,p3,p4,p5,p6⟩:=amj h6 (by omega) hcl;obtain⟨rfl,p8⟩:=p5 hne;obtain⟨p9,p7⟩:=p6 hne;obtain⟨x0,x1,x2,x3,x4,x5,x6,x7,x8,x9,x10,rfl⟩:=Sn p7.l;have hm:=fun k'=>YL (d:=aK.fail) (kp:=k') (n:=o.length+1) (by omega)
      have hx:∀(k':AV→aK),fB PG aK.fail 51 (.pv (.rows B)) (.pv (iv 0)) k'=k' (.cptr [x0,x1,x2,x3,x4,x5,x6,x7,x8,x9,x10]):=fun k'=>Ik (d:=aK.fail) (k:=k') (i:=0) p9 p7
      have hlr:=fun k'=>ac4 (d:=aK.fail) (k:=k') r
      generalize hG:o.map Tk.cells=G at *;generalize hT:(o.map Tk.text).map (fun s=>[sv s])=T at *;simp only[zE,List.cons_append,List.nil_append] at p4 p8;exact .pure hb2 (by simp[-Int.natCast_add,g2,p3,hlo,hm,p4,p8,hx,hw]) (.of (m:=[1,0]) (k:=1) (ys:=[x0,x1,x2,x3,x4,x5,x6,x7,x8,x9,x10]) (by omega) rfl (by rw[p7.w,Ex.cells_eq]))
   ·obtain⟨b2,d',rfl|rfl⟩:=hz
    ·rw[eP] at g2
     exact⟨_,by simp[g2];rfl,.of (m:=[1,0]) (b:=b2) (k:=0) rfl⟩
    ·rw[eP] at g2
     exact⟨_,by simp[g2];rfl,.of (m:=[1,0]) (b:=b2) (k:=0) rfl⟩
  ·exact⟨_,by simp[g],.of (m:=[1,0]) (b:=b) (d:=IntKind.i64.wrap (d'-1)) (k:=0) rfl⟩
end
set_option maxRecDepth 10000
section
variable{L:List Tk}(hW:F3 L)
include hW
theorem aoJ{n:Nat}(ihE:∀m,m≤n→Pa L (R5 L) eD (fG L m)):∀m,m≤n→Pa L (pAm L) eD (iW L m)
 |0,_=>fun a d _ _ _=>by rw[iW];trivial
 |m+1,h=>ag6 hW fun k hk=>ihE k (by omega)
theorem aoI:∀n,(∀m,m≤n→Pa L (R5 L) eD (fG L m))∧(∀m,m≤n→Pa L (pOp L) eD (fE L m)):=by
 intro n
 induction n with
 |zero=>exact⟨fun m hm=>by rw[show m=0 by omega];exact fun a d _ _ _=>by rw[fG];trivial,fun m hm=>by rw[show m=0 by omega];exact fun a d _ _ _=>by rw[fE];trivial⟩
 |succ n ih=>
  obtain⟨ihE,ihO⟩:=ih;refine⟨fun m hm=>?_,fun m hm=>?_⟩
  ·by_cases h:m=n+1
   ·subst h;exact ajU hW ihO
   ·exact ihE m (by omega)
  ·by_cases h:m=n+1
   ·subst h
    refine UE hW ihE (aoJ hW ihE) (fun m hm w a d h0 h1 ha=>?_) (fun m hm a d h0 h1 ha hl=>?_)
    ·cases m with
     |zero=>rw[gV];trivial
     |succ m=>exact WE hW (fun k hk=>ihE k (by omega)) w a d h0 h1 ha
    ·cases m with
     |zero=>
      refine .may (fun h=>?_) (fun h=>?_)
      ·rw[qI];trivial
      ·rw[qI];trivial
     |succ m=>exact ajT hW (fun k hk=>ihE k (by omega)) a d h0 h1 ha hl
   ·exact ihO m (by omega)
theorem aoH(n:Nat):Pa L (R5 L) eD (fG L n):=(aoI hW n).1 n (Nat.le_refl _)
theorem ab6:∀n:Nat,Pa L (pBd L) iP (Ap L n)
 |0=>fun a d _ _ _=>by rw[Ap];trivial
 |n+1=>WG hW (aoH hW n)
end
set_option maxRecDepth 10000
def okU(L:List Tk)(a:Nat)(d:Int)(k:Nat)(v:List ByteArray)(b:Nat)(z:Rs):Prop:=a≤b∧v.length≤b∧z=(k,ps L b d [.rows (v.map fun s=>[sv s])])
section
variable{L:List Tk}(hW:F3 L)
include hW
theorem ajO:∀(m:Nat) (l:List ByteArray) (a:Nat) (d:Int),a<L.length→l.length≤a→nY L (P5 (l.map fun s=>[sv s]) (aW L) (iv a) (iv d)) (o5 L m l d a) (okU L a d 3) (fun e w z=>∃b:Nat,z=(2,ps L b d [iv e,iv w])):=by
 intro m
 induction m with
 |zero=>intro l a d ha hl;rw[o5];trivial
 |succ m ih=>
  intro l a d ha hl;refine .of ?_;rw[o5.eq_2,adN];simp[dH hW ha];refine .may (fun hs=>?_) (fun hs=>?_)
  ·have h1:=aH hW hs
   simp[-Int.natCast_add,hs];refine .takeK (by decide) (fun k2=>?_) (fun k2=>?_)
   ·have h2:=hW.fin (a+1) (by omega)
    have hap:=fun k'=>aN (P:=PG) (d:=.fail) (k:=k') J7 (l9 l) (c:=[sv (ai L (a+1)).text]) rfl (by simp) (by have:=hW.len;simp;omega) (by decide)
    have hn:=ih (l++[(ai L (a+1)).text]) (a+1+1) d h2 (by simp;omega);rw[List.map_append,List.map_cons,List.map_nil] at hn;simp[-Int.natCast_add,cB hW h1,k2,Tk.cells];simp only[hap];cases hr:o5 L m (l++[(ai L (a+1)).text]) d (a+1+1) with
    |out=>trivial
    |err e x=>rw[hr] at hn;obtain⟨z,g1,b,rfl⟩:=hn;exact⟨_,by simp[-Int.natCast_add,g1],b,rfl⟩
    |ok v b=>rw[hr] at hn;obtain⟨hb,z,g1,h5,h6,rfl⟩:=hn;exact⟨hb,_,by simp[-Int.natCast_add,g1],by omega,h6,rfl⟩
   ·exact⟨_,by simp[-Int.natCast_add,cB hW h1,k2],a+1,rfl⟩
  ·exact .pure ha (by simp[hs]) ⟨Nat.le_refl _,hl,rfl⟩
theorem agW(m:Nat)(x:ByteArray)(a:Nat)(d:Int)(ha:a<L.length)(hl:1≤a):nY L (P6 [[sv x]] (aW L) (iv a) (iv d)) (o5 L m [x] d a)
  (fun v b z=>v=[x]∧okU L a d 1 v b z∨okU L a d 3 v b z) (fun e w z=>∃b:Nat,z=(0,ps L b d [iv e,iv w,.rows [[sv x]]])∨z=(2,ps L b d [iv e,iv w])):=by
 cases m with
 |zero=>rw[o5];trivial
 |succ m=>
  refine .of ?_;rw[o5.eq_2,adO];simp[dH hW ha];refine .may (fun hs=>?_) (fun hs=>?_)
  ·have h1:=aH hW hs
   simp[-Int.natCast_add,hs];refine .takeK (by decide) (fun k2=>?_) (fun k2=>?_)
   ·have h2:=hW.fin (a+1) (by omega)
    have hap:=fun k'=>aN (P:=PG) (d:=.fail) (k:=k') J7 (l9 [x]) (c:=[sv (ai L (a+1)).text]) rfl (by simp) (by simp) (by decide)
    have hn:=ajO hW m ([x]++[(ai L (a+1)).text]) (a+1+1) d h2 (by simp);rw[List.map_append,List.map_cons,List.map_nil,List.map_cons,List.map_nil] at hn;simp only[List.map_cons,List.map_nil] at hap;simp[-Int.natCast_add,cB hW h1,k2,Tk.cells];simp only[hap];simp only[List.cons_append,List.nil_append] at hn ⊢;cases hr:o5 L m [x,(ai L (a+1)).text] d (a+1+1) with
    |out=>trivial
    |err e x=>rw[hr] at hn;obtain⟨z,g1,b,rfl⟩:=hn;exact⟨_,by simp[-Int.natCast_add,g1],b,.inr rfl⟩
    |ok v b=>rw[hr] at hn;obtain⟨hb,z,g1,h5,h6,rfl⟩:=hn;exact⟨hb,_,by simp[-Int.natCast_add,g1],.inr ⟨by omega,h6,rfl⟩⟩
   ·exact⟨_,by simp[-Int.natCast_add,cB hW h1,k2],a+1,.inl rfl⟩
  ·exact .pure ha (by simp[hs]) (.inl ⟨rfl,Nat.le_refl _,by simpa using hl,rfl⟩)
theorem Gq(m:Nat)(a:Nat)(d:Int)(ha:a<L.length):nY L (acs (aW L) (iv a) (iv d)) (jR L m d a)
  (fun v b z=>a<b∧v.length≤b∧z=(0,ps L b d [.rows (v.map fun s=>[sv s])])) (fun e w z=>∃b:Nat,z=(1,ps L b d [iv e,iv w])):=by
 refine .of ?_;unfold jR;rw[aqb];refine .takeK (by decide) (fun k2=>?_) (fun k2=>?_)
 ·have h1:=hW.fin a (by omega)
  simp[-Int.natCast_add,cB hW ha,k2,Tk.cells];have hn:=agW hW m (ai L a).text (a+1) d h1 (by omega);cases hr:o5 L m [(ai L a).text] d (a+1) with
  |out=>trivial
  |err e x=>
   rw[hr] at hn;obtain⟨z,g1,b,rfl|rfl⟩:=hn
   ·exact⟨_,by simp[-Int.natCast_add,g1],b,rfl⟩
   ·exact⟨_,by simp[-Int.natCast_add,g1],b,rfl⟩
  |ok v b=>
   rw[hr] at hn;obtain⟨hb,z,g1,⟨rfl,h5,h6,rfl⟩|⟨h5,h6,rfl⟩⟩:=hn
   ·simp only[List.map_cons,List.map_nil] at g1
    exact⟨hb,_,by simp[-Int.natCast_add,g1],by omega,h6,rfl⟩
   ·exact⟨hb,_,by simp[-Int.natCast_add,g1],by omega,h6,rfl⟩
 ·exact⟨_,by simp[cB hW ha,k2],a,rfl⟩
omit hW in
theorem F8{a b:Nat}{d:Int}{v:List ByteArray}(h:ev (acs (aW L) (iv a) (iv d))=some (0,ps L b d [.rows (v.map fun s=>[sv s])])):ev (Xc (aW L) (iv a) (iv d))=some (0,ps L b d [.rows (v.map fun s=>[sv s])]):=ax.of (by
 have:kK (strs v)=strs v:=by simp
 rw[strs] at this;have hk:nth 0 [0,1] 0=0:=rfl;rw[af5 ev,h,iZ,hk];simp[this])
omit hW in
theorem BG{a b:Nat}{d e w:Int}(h:ev (acs (aW L) (iv a) (iv d))=some (1,ps L b d [iv e,iv w])):ev (Xc (aW L) (iv a) (iv d))=some (1,ps L b d [iv e,iv w]):=ax.of (by
 have hk:nth 0 [0,1] 1=1:=rfl;rw[af5 ev,h,iZ,hk])
theorem agZ(nm:ByteArray)(at_:Int):∀(m:Nat) (l:List ByteArray) (a:Nat) (d:Int),a<L.length→l.length≤a→nY L (QB (aW L) (iv a) (iv d) (sv nm) (l.map fun s=>[sv s]) (iv at_)) (j5 L m l d a)
  (fun v b z=>a≤b∧v.length≤b∧z=(1,ps L b d [sv nm,.rows (v.map fun s=>[sv s]),nS,nS,iv at_,sv eB,nS,nS,nS,iv 0])) (fun e w z=>False):=by
 intro m
 induction m with
 |zero=>intro l a d ha hl;rw[j5];trivial
 |succ m ih=>
  intro l a d ha hl;refine .of ?_;rw[j5.eq_2,aei];refine .kind (fun k1=>?_) (fun k1=>?_)
  ·refine .takeK (by decide) (fun _=>?_) (fun h=>absurd k1 h)
   have h2:=hW.fin a (by omega);have hap:=fun k'=>aN (P:=PG) (d:=.fail) (k:=k') J7 (l9 l) (c:=[sv (ai L a).text]) rfl (by simp) (by have:=hW.len;simp;omega) (by decide)
   have hn:=ih (l++[(ai L a).text]) (a+1) d h2 (by simp;omega);rw[List.map_append,List.map_cons,List.map_nil] at hn;simp[-Int.natCast_add,d9 ha,Tk.cells,eq_true k1,ou hW ha];simp only[hap];cases hr:j5 L m (l++[(ai L a).text]) d (a+1) with
   |out=>trivial
   |err e x=>rw[hr] at hn;obtain⟨z,g1,hf⟩:=hn;exact hf.elim
   |ok v b=>rw[hr] at hn;obtain⟨hb,z,g1,h5,h6,rfl⟩:=hn;exact⟨hb,_,by simp[-Int.natCast_add,g1],by omega,h6,rfl⟩
  ·exact .pure ha (by simp[d9 ha,Tk.cells,k1]) ⟨Nat.le_refl _,hl,rfl⟩
theorem ab1(nm:ByteArray)(at_:Int)(m:Nat)(a:Nat)(d:Int)(ha:a<L.length):nY L (QC (aW L) (iv a) (iv d) (sv nm) (iv at_)) (j5 L m [] d a)
  (fun v b z=>a≤b∧v.length≤b∧(v=[]∧z=(0,ps L b d [sv nm,nS,nS,nS,iv at_,sv eB,nS,nS,nS,iv 0])∨z=(1,ps L b d [sv nm,.rows (v.map fun s=>[sv s]),nS,nS,iv at_,sv eB,nS,nS,nS,iv 0]))) (fun e w z=>False):=by
 cases m with
 |zero=>rw[j5];trivial
 |succ m=>
  refine .of ?_;rw[j5.eq_2,aej];refine .kind (fun k1=>?_) (fun k1=>?_)
  ·refine .takeK (by decide) (fun _=>?_) (fun h=>absurd k1 h)
   have h2:=hW.fin a (by omega);have hn:=agZ hW nm at_ m [(ai L a).text] (a+1) d h2 (by simp);rw[List.map_cons,List.map_nil] at hn;simp[-Int.natCast_add,d9 ha,Tk.cells,eq_true k1,ou hW ha];cases hr:j5 L m [(ai L a).text] d (a+1) with
   |out=>trivial
   |err e x=>rw[hr] at hn;obtain⟨z,g1,hf⟩:=hn;exact hf.elim
   |ok v b=>rw[hr] at hn;obtain⟨hb,z,g1,h5,h6,rfl⟩:=hn;exact⟨hb,_,by simp[-Int.natCast_add,g1],by omega,h6,.inr rfl⟩
  ·exact .pure ha (by simp[d9 ha,Tk.cells,k1]) ⟨Nat.le_refl _,by simp,.inl ⟨rfl,rfl⟩⟩
end
end Go.Proofs.YtijcobeebaceoaaGreatDoor
