import Derived.Test.YtijcobeebaceoaaGreatDoorMz1
import Derived.Test.YtijcobeebaceoaaGreatDoorMz2
import Derived.Test.YtijcobeebaceoaaGreatDoorMz3
import Derived.Test.YtijcobeebaceoaaGreatDoorMz4
import Derived.Test.YtijcobeebaceoaaGreatDoorBak
set_option linter.all false
namespace Go.Proofs.YtijcobeebaceoaaGreatDoor
open Go.RowKit
set_option maxRecDepth 100000
theorem tabs:vY PG SS EE:=vY.of (by kernel_rfl) (by kernel_rfl) (by kernel_rfl)
theorem alp{α β:Type}(f:α→β)(d:β)(z:α):∀(l:List α) (k:Nat),k<l.length→nth d (l.map f) k=f (nth z l k)
 |_::_,0,_=>rfl
 |_::l,k+1,h=>alp f d z l k (Nat.lt_of_succ_lt_succ h)
theorem eeN(k:Nat)(h:Nat.blt k qd.length=true):EE k=dN qd (nth 0 qd k):=alp _ _ _ _ _ (by simpa[Nat.blt_eq] using h)
theorem oneL{l:List af}(h:(match l with|[_]=>true|_=>false)=true):∃x,l=[x]:=by
 split at h
 ·exact⟨_,rfl⟩
 ·cases h
theorem aov{l:List Nat}(h:l.isEmpty=false):∃x r,l=x::r:=by
 cases l with
 |nil=>cases h
 |cons x r=>exact⟨x,r,rfl⟩
section
variable(k b:Nat)(kl:Nat.blt k qd.length=true:=by kernel_rfl)(bl:Nat.blt b qd.length=true:=by kernel_rfl)(bk:(nth 0 qd b%64).blt 4=true:=by kernel_rfl)(kk:(nth 0 qd k%64).blt 4=false:=by kernel_rfl)(kb:nth 0 qd k/64%4096=b:=by kernel_rfl)
include kl bl bk kk kb
theorem wb:EE b=dB (nth 0 qd b):=(eeN b bl).trans (by unfold dN;simp[bk])
theorem wE(h:(nth 0 qd k%64).beq 4=true):EE k=wkE (dB (nth 0 qd b)) (nth 0 qd k/262144%4096) b:=(eeN k kl).trans (by unfold dN;simp only[kk,h,kb,cond_true,cond_false])
theorem wF(h:(nth 0 qd k%64).beq 4=false):EE k=wkM (dB (nth 0 qd b)) (nth 0 qd k/262144%4096) b (rNZ (nth 0 qd k/1073741824%64) (nth 0 qd k/1073741824/64)).1:=(eeN k kl).trans (by unfold dN;simp only[kk,h,kb,cond_false])
theorem wN(h:(nth 0 qd k%64).beq 4=true:=by kernel_rfl)(h1:(dB (nth 0 qd b)).lp=none:=by kernel_rfl)(h5:(dB (nth 0 qd b)).h=[]:=by kernel_rfl)(hc:aaN (SS (dB (nth 0 qd b)).fam) (SS (nth 0 qd k/262144%4096))=true:=by kernel_rfl)(hw:(dB (nth 0 qd b)).wm=[]:=by kernel_rfl):RK k:=aA.weak (wE k b kl bl bk kk kb h) (wb k b kl bl bk kk kb) rfl h1 h1 rfl rfl h5 h5 rfl rfl hc hw
theorem wD(h:(nth 0 qd k%64).beq 4=true:=by kernel_rfl)(h1:(dB (nth 0 qd b)).lp=none:=by kernel_rfl)(h5:(match(dB (nth 0 qd b)).h with|[_]=>true|_=>false)=true:=by kernel_rfl)(hc:aiY (SS (dB (nth 0 qd b)).fam) (SS (nth 0 qd k/262144%4096))=true:=by kernel_rfl)(hw:(dB (nth 0 qd b)).wm=[]:=by kernel_rfl):RK k:=aA.weakD (wE k b kl bl bk kk kb h) (wb k b kl bl bk kk kb) rfl h1 h1 rfl rfl (oneL h5) rfl rfl rfl hc hw
theorem wM(h:(nth 0 qd k%64).beq 4=false:=by kernel_rfl)(h1:(dB (nth 0 qd b)).lp=none:=by kernel_rfl)(h5:(match(dB (nth 0 qd b)).h with|[_]=>true|_=>false)=true:=by kernel_rfl)(hc:aiX (SS (dB (nth 0 qd b)).fam) (SS (nth 0 qd k/262144%4096)) (rNZ (nth 0 qd k/1073741824%64) (nth 0 qd k/1073741824/64)).1=true:=by kernel_rfl)(hw:(rNZ (nth 0 qd k/1073741824%64) (nth 0 qd k/1073741824/64)).1.isEmpty=false:=by kernel_rfl):RK k:=aA.weakM (wF k b kl bl bk kk kb h) (wb k b kl bl bk kk kb) rfl h1 h1 rfl rfl (oneL h5) rfl rfl rfl hc (aov hw)
end
theorem ahh:bR (aA PG SS EE TT) 340:=⟨⟨⟨acH (acI (ahV (ak9 trivial))),aj4⟩,aj3⟩,aj2⟩
theorem ahg:bR (aA PG SS EE TT) 353:=⟨⟨⟨⟨⟨⟨⟨⟨⟨⟨⟨⟨⟨ahh,wM 340 21⟩,wM 341 41⟩,wM 342 57⟩,wM 343 66⟩,wM 344 73⟩,wM 345 77⟩,wM 346 81⟩,wM 347 83⟩,wM 348 84⟩,wM 349 94⟩,wM 350 97⟩,wN 351 18⟩,wM 352 100⟩
theorem ahf:bR (aA PG SS EE TT) 366:=⟨⟨⟨⟨⟨⟨⟨⟨⟨⟨⟨⟨⟨ahg,wM 353 105⟩,wM 354 110⟩,wM 355 112⟩,wM 356 115⟩,wM 357 116⟩,wM 358 122⟩,wD 359 154⟩,wD 360 172⟩,wD 361 181⟩,wD 362 189⟩,wN 363 224⟩,wD 364 191⟩,wN 365 146⟩
theorem ahe:bR (aA PG SS EE TT) 379:=⟨⟨⟨⟨⟨⟨⟨⟨⟨⟨⟨⟨⟨ahf,wD 366 195⟩,wD 367 199⟩,wD 368 201⟩,wD 369 205⟩,wD 370 212⟩,wD 371 213⟩,wD 372 217⟩,wD 373 223⟩,wN 374 313⟩,wN 375 320⟩,wN 376 329⟩,wN 377 124⟩,wN 378 290⟩
theorem aib:∀k,379≤k→(EE k).base=none∧TT k=U8:=fun k hk=>⟨by unfold EE;rw[oz dEn enL k (Nat.le_trans (by decide) hk)];rfl,by unfold TT;rw[oz U8 etL k (Nat.le_trans (by decide) hk)]⟩
theorem aax{q:Q}{r:Rs}(h:ev q=some r)(hp:Pre EE q):uN PG SS EE q r∧Pst SS (EE q.k).fam r:=ax.sound tabs ahe.get aib h hp
end Go.Proofs.YtijcobeebaceoaaGreatDoor
