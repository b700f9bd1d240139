/- Joined. -/
import Derived.Test.YtjpjcjnacnlhdaaGreatHw
import Derived.KernelRfl
set_option linter.unusedVariables false
namespace Go.Proofs.YtjpjcjnacnlhdaaGreat
open Go.RowKit
section
open R
variable{T:Type}[R T]
def g13(a b c d:PV):T:=D 21 [d] 0 0 (v1 fun e=>mz [bt] (O0 [e,bt])) (v1 fun e=>mz [bf] (D 25 [a,d] 0 0 (ms [d] (v1 fun f=>mz [bt] (X 23 a f (w5 fun g h i j k=>L 52 h fun l=>O0 [l,bt])))) (ms [d] (v1 fun f=>mz [bf] (O0 [i0,bf])))))
def g14(a b c d:PV):T:=E9 d z3 (O0 [i0]) (E9 d z2 (O0 [i0]) (E9 d z1 (O0 [i1]) (E9 d z0 (O0 [i2]) (D 2 [i0,d,a,b,c] 1 0 (mz [a,b,c] (O0 [(iv (-1))])) (ms [a,b,c] (w1 fun e=>O0 [e]))))))
def g14b0a(a b c d e:PV):T:=L 23 c fun f=>L3 a f (X 23 c a (w5 fun g h i j k=>E9 g b (L 52 h fun l=>O0 [c,d,e,l]) (A3 a i1 fun l=>Y 2 [l,b,c,d,e]))) (O 1 [c,d,e])
def g15(a b c d e f g h:PV):T:=E3 e i1 (Q0 22 [d,f] (L 45 h fun i=>D 4 [i0,i,h,d,a,b,c] 1 0 (mz [a,b,c] (O0 [i0])) (ms [a,b,c] (w1 fun j=>O0 [j]))) (O0 [(iv 123)])) (E3 e i3 (D 0 [a,b,c,f] 0 0 (v1 fun i=>mz [bt] (L 45 h fun j=>N3 i j (O0 [(iv 122)]) (D 4 [i0,j,h,d,a,b,c] 1 0 (mz [a,b,c] (O0 [i0])) (ms [a,b,c] (w1 fun k=>O0 [k]))))) (v1 fun i=>mz [bf] (O0 [(iv 121)]))) (O0 [(iv 123)]))
def g15b1a(a b c d e f g:PV):T:=L3 a b (X 45 c a (w4 fun h i j k=>C0 3 [e,f,g,d,h,i,j,k] (w1 fun l=>TW .neq 33 l i0 (O0 [e,f,g,l]) (A3 a i1 fun m=>Y 4 [m,b,c,d,e,f,g])))) (O 1 [e,f,g])
def g16(a b c d e f g h:PV):T:=E3 e i1 (Q0 19 [d,f] (D 6 [i0,d,e,f,g,h,a,b,c] 1 0 (mz [e,f,g,h,a,b,c] (O0 [i0])) (ms [e,f,g,h,a,b,c] (w1 fun i=>O0 [i]))) (O0 [(iv 123)])) (E3 e i3 (C0 1 [a,b,c,f] (w1 fun i=>L3 i i0 (O0 [(iv 121)]) (L 45 h fun j=>N3 i j (O0 [(iv 122)]) (D 6 [i0,d,e,f,g,h,a,b,c] 1 0 (mz [e,f,g,h,a,b,c] (O0 [i0])) (ms [e,f,g,h,a,b,c] (w1 fun k=>O0 [k])))))) (O0 [(iv 123)]))
def g16b0a(a b c d e f g h i:PV):T:=L 45 f fun j=>L3 a j (X 45 f a (w4 fun k l m n=>C0 5 [g,h,i,b,k,l,m,n] (w1 fun o=>N3 o i0 (O0 [c,d,e,f,g,h,i,o]) (A3 a i1 fun p=>Y 6 [p,b,c,d,e,f,g,h,i])))) (O 1 [c,d,e,f,g,h,i])
def g19(a b c d:PV):T:=D 26 [b,d] 0 0 (ms [d] (v1 fun e=>mz [bt] (O0 [e,bt]))) (ms [d] (v1 fun e=>mz [bf] (O0 [e,bf])))
def g20(a b c d:PV):T:=D 9 [i0,d,a,b,c] 1 0 (mz [a,b,c] (O0 [(iv (-1))])) (ms [a,b,c] (w1 fun e=>O0 [e]))
def g20b0a(a b c d e:PV):T:=L 24 d fun f=>L3 a f (X 24 d a (w6 fun g h i j k l=>E9 g b (O0 [c,d,e,a]) (A3 a i1 fun m=>Y 9 [m,b,c,d,e]))) (O 1 [c,d,e])
def g21(a b c d:PV):T:=L 24 b fun e=>J (C 11 [i0,e,b,d] 1 (mz [d] (O0 [i0,i0,bf]))) (D 11 [i0,e,b,d] 0 0 (ms [d] (v2 fun f g=>mz [bt] (O0 [f,g,bt]))) (ms [d] (v2 fun f g=>mz [bf] (O0 [f,g,bf]))))
def g21b0a(a b c d:PV):T:=L3 a b (X 24 c a (w6 fun e f g h i j=>D 27 [h,d] 0 0 (ms [d] (v1 fun k=>mz [bt] (O0 [d,a,k,bt]))) (ms [d] (v1 fun k=>mz [bf] (A3 a i1 fun l=>Y 11 [l,b,c,d]))))) (O 1 [d])
def g22(a b c d:PV):T:=D 13 [i0,d,a,b,c] 1 0 (mz [a,b,c] (O0 [(iv (-1)),(iv (-1))])) (ms [a,b,c] (w2 fun e f=>O0 [e,f]))
def g22b0a(a b c d e:PV):T:=L 24 d fun f=>L3 a f (D 14 [i0,a,b,c,d,e] 1 0 (mz [c,d,e,a,b] (A3 a i1 fun g=>Y 13 [g,b,c,d,e])) (ms [c,d,e] (w2 fun g h=>O0 [c,d,e,g,h]))) (O 1 [c,d,e])
def g22b2a(a b c d e f:PV):T:=X 24 e b (w6 fun g h i j k l=>L 75 j fun m=>L3 a m (X 75 j a (w6 fun n o p q r s=>E9 n c (O0 [d,e,f,b,a]) (A3 a i1 fun t=>Y 14 [t,b,c,d,e,f]))) (O 1 [d,e,f,b,c]))
def g24(a b c d e:PV):T:=D 16 [i0,d,e,a,b,c] 1 0 (mz [a,b,c] (O0 [(iv (-1))])) (ms [a,b,c] (w1 fun f=>O0 [f]))
def g24b0a(a b c d e f:PV):T:=L 25 f fun g=>L3 a g (X 25 f a (w8 fun h i j k l m n o=>E9 h b (E9 j c (O0 [d,e,f,a]) (A3 a i1 fun p=>Y 16 [p,b,c,d,e,f])) (A3 a i1 fun p=>Y 16 [p,b,c,d,e,f]))) (O 1 [d,e,f])
def g26(a b c d:PV):T:=D 28 [d,a,b,c] 0 1 (mz [a,b,c,nS] (O0 [nS])) (ms [a,b,c] (w1 fun e=>O 1 [e]))
def g27(a b c d:PV):T:=D 31 [a,b,c,d] 0 1 (mz [nS] (O0 [nS])) (w1 fun e=>O 1 [e])
def g44(a b:PV):T:=J (C 20 [i0,a,b] 1 (z (O0 [bf]))) (Q0 20 [i0,a,b] (O0 [bt]) (O0 [bf]))
def g44b0a(a b c:PV):T:=L 52 b fun d=>L3 a d (X 52 b a (w1 fun e=>E9 e c (O0 [bt]) (A3 a i1 fun f=>Y 20 [f,b,c]))) (O 1 [])
def g51(a:PV):T:=E9 a z3 (O0 [i0,bt]) (E9 a z2 (O0 [i0,bt]) (E9 a z1 (O0 [i1,bt]) (E9 a z0 (O0 [i2,bt]) (O0 [i0,bf]))))
def g54(a b:PV):T:=C0 23 [a,b] (w1 fun c=>H3 c i0 (O0 [bt]) (O0 [bf]))
def g93(a b:PV):T:=L 52 a fun c=>D 24 [i0,c,b,a] 1 0 (z (O0 [(iv (-1))])) (w1 fun d=>O0 [d])
def g93b0a(a b c d:PV):T:=L3 a b (X 52 d a (w1 fun e=>E9 c e (O0 [a]) (A3 a i1 fun f=>Y 24 [f,b,c,d]))) (O 1 [])
def g52a(a b:PV):T:=C0 34 [a,b] (ms [b] (w1 fun c=>M false c i0 fun d=>H3 c i0 (O0 [b,d,bt]) (O0 [b,d,bf])))
def g57a(a b:PV):T:=C0 36 [a,b] (ms [b] (w1 fun c=>M false c i0 fun d=>H3 c i0 (O0 [b,d,bt]) (O0 [b,d,bf])))
def g59a(a b:PV):T:=C0 38 [a,b] (ms [b] (w1 fun c=>M false c i0 fun d=>H3 c i0 (O0 [b,d,bt]) (O0 [b,d,bf])))
def g63a(a b c d:PV):T:=D 7 [b,c,d,a] 0 0 (v1 fun e=>mz [bt] (X 24 c e (w6 fun f g h i j k=>L 52 h fun l=>D 29 [i0,l,h,b,c,d] 0 1 (mz [nS,b,c,d] (O0 [b,c,d,nS])) (v1 fun m=>mz [b,c,d] (O 1 [b,c,d,m]))))) (v1 fun e=>mz [bf] (O0 [b,c,d,nS]))
def g63ab0a(a b c d e f:PV):T:=L3 a b (X 52 c a (w1 fun g=>Q0 22 [(.rows []),g] (A3 a i1 fun h=>Y 29 [h,b,c,d,e,f]) (D 40 [g,d,e,f,(.rows [[g]])] 0 1 (mz [d,e,f,(.rows [[g]])] (A3 a i1 fun h=>Y 30 [h,b,c,(.rows [[g]]),d,e,f])) (ms [d,e,f] (w1 fun h=>A3 a i1 fun i=>Y 30 [i,b,c,h,d,e,f]))))) (O0 [nS,d,e,f])
def g63ab0b(a b c d e f g:PV):T:=L3 a b (X 52 c a (w1 fun h=>Q0 22 [d,h] (A3 a i1 fun i=>Y 30 [i,b,c,d,e,f,g]) (P 52 d (.rows [[h]]) fun i=>D 40 [h,e,f,g,i] 0 1 (mz [e,f,g,i] (A3 a i1 fun j=>Y 30 [j,b,c,i,e,f,g])) (ms [e,f,g] (w1 fun j=>A3 a i1 fun k=>Y 30 [k,b,c,j,e,f,g]))))) (O 1 [d,e,f,g])
def g64a(a b c d:PV):T:=C0 8 [a,b,c,d] (w1 fun e=>L3 e i0 (O0 [nS]) (X 24 b e (w6 fun f g h i j k=>D 32 [i0,h,a,b,c] 0 1 (mz [a,b,c,nS] (O0 [nS])) (ms [a,b,c] (w1 fun l=>O 1 [l])))))
def g64ab0a(a b c d e:PV):T:=L 52 b fun f=>L3 a f (X 52 b a (w1 fun g=>Q0 19 [(.rows []),g] (A3 a i1 fun h=>Y 32 [h,b,c,d,e]) (D 43 [c,d,e,g,(.rows [[g]])] 0 1 (mz [(.rows [[g]])] (A3 a i1 fun h=>Y 33 [h,b,(.rows [[g]]),c,d,e])) (w1 fun h=>A3 a i1 fun i=>Y 33 [i,b,h,c,d,e])))) (O0 [c,d,e,nS])
def g64ab0b(a b c d e f:PV):T:=L 52 b fun g=>L3 a g (X 52 b a (w1 fun h=>Q0 19 [c,h] (A3 a i1 fun i=>Y 33 [i,b,c,d,e,f]) (P 52 c (.rows [[h]]) fun i=>D 43 [d,e,f,h,i] 0 1 (mz [i] (A3 a i1 fun j=>Y 33 [j,b,i,d,e,f])) (w1 fun j=>A3 a i1 fun k=>Y 33 [k,b,j,d,e,f])))) (O 1 [d,e,f,c])
def g92a(a b:PV):T:=L 23 a fun c=>D 35 [i0,c,a,b] 1 0 (mz [b] (O0 [b,(iv (-1))])) (ms [b] (w1 fun d=>O0 [b,d]))
def g92ab0a(a b c d:PV):T:=L3 a b (X 23 c a (w5 fun e f g h i=>D 46 [e,f,g,h,i,d] 0 0 (mz [d,bt] (O0 [d,a])) (mz [d,bf] (A3 a i1 fun j=>Y 35 [j,b,c,d])))) (O 1 [d])
def g95a(a b:PV):T:=L 24 a fun c=>D 37 [i0,c,a,b] 1 0 (mz [b] (O0 [b,(iv (-1))])) (ms [b] (w1 fun d=>O0 [b,d]))
def g95ab0a(a b c d:PV):T:=L3 a b (X 24 c a (w6 fun e f g h i j=>D 47 [e,f,g,h,i,j,d] 0 0 (mz [d,bt] (O0 [d,a])) (mz [d,bf] (A3 a i1 fun k=>Y 37 [k,b,c,d])))) (O 1 [d])
def g96a(a b:PV):T:=L 75 a fun c=>D 39 [i0,c,a,b] 1 0 (mz [b] (O0 [b,(iv (-1))])) (ms [b] (w1 fun d=>O0 [b,d]))
def g96ab0a(a b c d:PV):T:=L3 a b (X 75 c a (w6 fun e f g h i j=>D 48 [e,f,g,h,i,j,d] 0 0 (mz [d,bt] (O0 [d,a])) (mz [d,bf] (A3 a i1 fun k=>Y 39 [k,b,c,d])))) (O 1 [d])
def g63b(a b c d e:PV):T:=D 7 [b,c,d,a] 0 0 (v1 fun f=>mz [bt] (X 24 c f (w6 fun g h i j k l=>L 52 i fun m=>D 41 [i0,m,i,e,b,c,d] 0 1 (mz [e,b,c,d] (O0 [b,c,d,e])) (v1 fun n=>mz [b,c,d] (O 1 [b,c,d,n]))))) (v1 fun f=>mz [bf] (O0 [b,c,d,e]))
def g63bb0a(a b c d e f g:PV):T:=L3 a b (X 52 c a (w1 fun h=>Q0 22 [d,h] (A3 a i1 fun i=>Y 41 [i,b,c,d,e,f,g]) (P 52 d (.rows [[h]]) fun i=>D 40 [h,e,f,g,i] 0 1 (mz [e,f,g,i] (A3 a i1 fun j=>Y 42 [j,b,c,i,e,f,g])) (ms [e,f,g] (w1 fun j=>A3 a i1 fun k=>Y 42 [k,b,c,j,e,f,g]))))) (O0 [d,e,f,g])
def g63bb0b(a b c d e f g:PV):T:=L3 a b (X 52 c a (w1 fun h=>Q0 22 [d,h] (A3 a i1 fun i=>Y 42 [i,b,c,d,e,f,g]) (P 52 d (.rows [[h]]) fun i=>D 40 [h,e,f,g,i] 0 1 (mz [e,f,g,i] (A3 a i1 fun j=>Y 42 [j,b,c,i,e,f,g])) (ms [e,f,g] (w1 fun j=>A3 a i1 fun k=>Y 42 [k,b,c,j,e,f,g]))))) (O 1 [d,e,f,g])
def g64b(a b c d e:PV):T:=C0 8 [a,b,c,d] (w1 fun f=>L3 f i0 (O0 [e]) (X 24 b f (w6 fun g h i j k l=>D 44 [i0,i,e,a,b,c] 0 1 (mz [a,b,c,e] (O0 [e])) (ms [a,b,c] (w1 fun m=>O 1 [m])))))
def g64bb0a(a b c d e f:PV):T:=L 52 b fun g=>L3 a g (X 52 b a (w1 fun h=>Q0 19 [c,h] (A3 a i1 fun i=>Y 44 [i,b,c,d,e,f]) (P 52 c (.rows [[h]]) fun i=>D 43 [d,e,f,h,i] 0 1 (mz [i] (A3 a i1 fun j=>Y 45 [j,b,i,d,e,f])) (w1 fun j=>A3 a i1 fun k=>Y 45 [k,b,j,d,e,f])))) (O0 [d,e,f,c])
def g64bb0b(a b c d e f:PV):T:=L 52 b fun g=>L3 a g (X 52 b a (w1 fun h=>Q0 19 [c,h] (A3 a i1 fun i=>Y 45 [i,b,c,d,e,f]) (P 52 c (.rows [[h]]) fun i=>D 43 [d,e,f,h,i] 0 1 (mz [i] (A3 a i1 fun j=>Y 45 [j,b,i,d,e,f])) (w1 fun j=>A3 a i1 fun k=>Y 45 [k,b,j,d,e,f])))) (O 1 [d,e,f,c])
def g53a(a b c d e f:PV):T:=E9 a f (O0 [f,bt]) (O0 [f,bf])
def g58a(a b c d e f g:PV):T:=E9 a g (O0 [g,bt]) (O0 [g,bf])
def g60a(a b c d e f g:PV):T:=E9 a g (O0 [g,bt]) (O0 [g,bf])
def g39a(a b c d e:PV):T:=D 53 [b,c,d,e] 0 1 (mz [b,c,d,e] (D 59 [b,c,d,e] 0 1 (mz [b,c,d,e] (L 25 d fun f=>D 50 [i0,f,a,b,c,d,e] 1 0 (ms [b,c,d] (v1 fun g=>mz [i0,i0,a] (D 51 [i0,f,d,a,b,c,d,g] 1 0 (mz [b,c,d,g,i0,i0,a] (L 26 a fun h=>D 52 [i0,h,a,a,b,c,d,g] 1 0 (mz [b,c,d,g,i0,i0] (O0 [b,c,d,g,i0,i0])) (ms [b,c,d,g,i0,i0] (w2 fun i j=>O0 [b,c,d,g,i,j])))) (ms [b,c,d,g,i0,i0] (w2 fun h i=>O0 [b,c,d,g,h,i]))))) (ms [b,c,d] (v1 fun g=>ms [i0,i0] (w2 fun h i=>O0 [b,c,d,g,h,i]))))) (ms [b,c,d,e] (w2 fun f g=>O0 [b,c,d,e,f,g])))) (ms [b,c,d,e] (w2 fun f g=>O0 [b,c,d,e,f,g]))
def g39ab0a(a b c d e f g:PV):T:=L3 a b (D 66 [a,d,e,f,g] 1 0 (ms [d,e,f] (w1 fun h=>A3 a i1 fun i=>Y 50 [i,b,c,d,e,f,h])) (ms [d,e,f] (w3 fun h i j=>O0 [d,e,f,h,i0,i0,i,j]))) (O 1 [d,e,f,g,i0,i0,c])
def g39ab2a(a b c d e f g h:PV):T:=L3 a b (X 25 c a (w8 fun i j k l m n o p=>D 69 [i,j,k,l,m,n,o,p,e,f,g,h] 0 1 (mz [e,f,g,h] (A3 a i1 fun q=>Y 51 [q,b,c,d,e,f,g,h])) (ms [e,f,g,h] (w2 fun q r=>O0 [e,f,g,h,i0,i0,q,r])))) (O 1 [e,f,g,h,i0,i0,d])
def g39ab4a(a b c d e f g h:PV):T:=L3 a b (X 26 c a (w13 fun i j k l m n o p q r s t u=>D 10 [e,f,g,i] 0 0 (v2 fun v w=>mz [bt] (S 26 d none (some (.pv a)) fun x=>D 72 [x,i,j,k,l,m,n,o,p,q,r,s,t,u] 0 0 (ms [i,j,k,l,m,n,o,p,q,r,s,t,u] (v1 fun y=>mz [bt] (C0 184 [(iv 120),u] (w2 fun a0 b0=>O0 [e,f,g,h,i0,i0,a0,b0])))) (ms [i,j,k,l,m,n,o,p,q,r,s,t,u] (v1 fun y=>mz [bf] (C0 184 [(iv 120),u] (w2 fun a0 b0=>O0 [e,f,g,h,i0,i0,a0,b0])))))) (v2 fun v w=>mz [bf] (S 26 d none (some (.pv a)) fun x=>D 72 [x,i,j,k,l,m,n,o,p,q,r,s,t,u] 0 0 (ms [i,j,k,l,m,n,o,p,q,r,s,t,u] (v1 fun y=>mz [bt] (C0 184 [(iv 120),u] (w2 fun a0 b0=>O0 [e,f,g,h,i0,i0,a0,b0])))) (ms [i,j,k,l,m,n,o,p,q,r,s,t,u] (v1 fun y=>mz [bf] (C0 183 [(iv 120),u] (z (A3 a i1 fun a0=>Y 52 [a0,b,c,d,e,f,g,h]))))))))) (O 1 [e,f,g,h,i0,i0])
def g75a(a b c d:PV):T:=L 23 a fun e=>D 54 [i0,e,a,a,b,c,d] 1 0 (mz [a,b,c,d] (D 55 [i0,e,a,(.rows []),a,b,c,d] 1 0 (v1 fun f=>mz [a,b,c,d] (O0 [a,b,c,d])) (v1 fun f=>ms [a,b,c,d] (w2 fun g h=>O 1 [a,b,c,d,g,h])))) (ms [a,b,c,d] (w2 fun f g=>O 1 [a,b,c,d,f,g]))
def g75ab0a(a b c d e f g:PV):T:=L3 a b (X 23 c a (w5 fun h i j k l=>D 21 [h] 0 0 (v1 fun m=>mz [bt] (S 23 d none (some (.pv a)) fun n=>D 73 [n,h,i,j,k,l] 0 0 (ms [h,i,j,k,l] (v1 fun o=>mz [bt] (C0 184 [(iv 120),l] (w2 fun p q=>O0 [d,e,f,g,p,q])))) (ms [h,i,j,k,l] (v1 fun o=>mz [bf] (C0 184 [(iv 120),l] (w2 fun p q=>O0 [d,e,f,g,p,q])))))) (v1 fun m=>mz [bf] (S 23 d none (some (.pv a)) fun n=>D 73 [n,h,i,j,k,l] 0 0 (ms [h,i,j,k,l] (v1 fun o=>mz [bt] (C0 184 [(iv 120),l] (w2 fun p q=>O0 [d,e,f,g,p,q])))) (ms [h,i,j,k,l] (v1 fun o=>mz [bf] (C0 183 [(iv 120),l] (z (A3 a i1 fun p=>Y 54 [p,b,c,d,e,f,g]))))))))) (O 1 [d,e,f,g])
def g75ab2a(a b c d e f g h:PV):T:=L3 a b (X 23 c a (w5 fun i j k l m=>L 52 j fun n=>D 56 [i0,n,j,a,b,c,i,j,k,l,m,d,e,f,g,h] 1 0 (mz [i,j,k,l,m,d,e,f,g,h,a,b,c] (L 71 k fun o=>D 57 [i0,o,k,a,b,c,d,e,f,g,h,i,j,k,l,m] 1 0 (v1 fun p=>mz [e,f,g,h,i,j,k,l,m,a,b,c] (A3 a i1 fun q=>Y 55 [q,b,c,p,e,f,g,h])) (v1 fun p=>ms [e,f,g,h,i,j,k,l,m] (w2 fun q r=>O0 [p,e,f,g,h,q,r])))) (ms [i,j,k,l,m,d,e,f,g,h] (w2 fun o p=>O0 [d,e,f,g,h,o,p])))) (O 1 [d,e,f,g,h])
def g75ab4a(a b c d e f g h i j k l m n o p:PV):T:=L3 a b (X 52 c a (w1 fun q=>S 52 h none (some (.pv a)) fun r=>Q0 22 [r,q] (C0 184 [(iv 120),k] (w2 fun s t=>O0 [g,h,i,j,k,l,m,n,o,p,s,t])) (C0 183 [(iv 120),k] (z (A3 a i1 fun s=>Y 56 [s,b,c,d,e,f,g,h,i,j,k,l,m,n,o,p]))))) (O 1 [g,h,i,j,k,l,m,n,o,p,d,e,f])
def g75ab6a(a b c d e f g h i j k l m n o p:PV):T:=L3 a b (X 71 c a (w3 fun q r s=>J (WI 161 g (.pv q) false bt (C0 184 [(iv 120),s] (w2 fun t u=>O0 [g,h,i,j,k,l,m,n,o,p,t,u]))) (WI 161 g (.pv q) false bf (C0 183 [(iv 120),s] (z (Z 161 g (.pv q) (.pv bt) fun t=>L 45 r fun u=>K3 u (iv 60) (C0 183 [i3,s] (z (D 58 [i0,u,r,a,b,c,d,e,f,h,i,j,k,l,m,n,o,p,q,r,s,t] 1 0 (mz [h,i,j,k,l,m,n,o,p,q,r,s,t,a,b,c,d,e,f] (A3 a i1 fun v=>Y 57 [v,b,c,d,e,f,t,h,i,j,k,l,m,n,o,p])) (ms [h,i,j,k,l,m,n,o,p,q,r,s,t] (w2 fun v w=>O0 [t,h,i,j,k,l,m,n,o,p,v,w]))))) (C0 184 [i3,s] (w2 fun v w=>O0 [t,h,i,j,k,l,m,n,o,p,v,w])))))))) (O 1 [g,h,i,j,k,l,m,n,o,p,d,e,f])
def g75ab8a(a b c d e f g h i j k l m n o p q r s t u v:PV):T:=L3 a b (X 45 c a (w4 fun w x y a0=>C0 3 [j,k,l,o,w,x,y,a0] (w1 fun b0=>TW .eql 33 b0 i0 (C0 183 [b0,u] (z (A3 a i1 fun c0=>Y 58 [c0,b,c,d,e,f,g,h,i,j,k,l,m,n,o,p,q,r,s,t,u,v]))) (C0 184 [b0,u] (w2 fun c0 d0=>O0 [j,k,l,m,n,o,p,q,r,s,t,u,v,c0,d0]))))) (O 1 [j,k,l,m,n,o,p,q,r,s,t,u,v,d,e,f,g,h,i])
def g76a(a b c d:PV):T:=L 24 b fun e=>D 60 [i0,e,b,b,a,b,c,d] 1 0 (mz [a,b,c,d,b] (D 61 [i0,e,b,b,a,b,c,d] 1 0 (mz [a,b,c,d,b] (D 63 [i0,e,b,b,a,b,c,d] 1 0 (mz [a,b,c,d,b] (D 64 [i0,e,b,(.rows []),a,b,c,d] 1 0 (v1 fun f=>mz [a,b,c,d] (O0 [a,b,c,d])) (v1 fun f=>ms [a,b,c,d] (w2 fun g h=>O 1 [a,b,c,d,g,h])))) (ms [a,b,c,d] (w2 fun f g=>O 1 [a,b,c,d,f,g])))) (ms [a,b,c,d] (w2 fun f g=>O 1 [a,b,c,d,f,g])))) (ms [a,b,c,d] (w2 fun f g=>O 1 [a,b,c,d,f,g]))
def g76ab0a(a b c d e f g h:PV):T:=L3 a b (X 24 c a (w6 fun i j k l m n=>S 24 d none (some (.pv a)) fun o=>D 74 [o,i,j,k,l,m,n] 0 0 (ms [i,j,k,l,m,n] (v1 fun p=>mz [bt] (C0 184 [(iv 120),n] (w2 fun q r=>O0 [e,f,g,h,q,r])))) (ms [i,j,k,l,m,n] (v1 fun p=>mz [bf] (C0 183 [(iv 120),n] (z (A3 a i1 fun q=>Y 60 [q,b,c,d,e,f,g,h]))))))) (O 1 [e,f,g,h,d])
def g76ab2a(a b c d e f g h:PV):T:=L3 a b (X 24 c a (w6 fun i j k l m n=>L 52 k fun o=>D 62 [i0,o,k,a,b,c,d,e,f,g,h,i,j,k,l,m,n] 1 0 (mz [e,f,g,h,i,j,k,l,m,n,a,b,c,d] (A3 a i1 fun p=>Y 61 [p,b,c,d,e,f,g,h])) (ms [e,f,g,h,i,j,k,l,m,n] (w2 fun p q=>O0 [e,f,g,h,p,q])))) (O 1 [e,f,g,h,d])
def g76ab4a(a b c d e f g h i j k l m n o p q:PV):T:=L3 a b (X 52 c a (w1 fun r=>D 7 [h,i,j,r] 0 0 (v1 fun s=>mz [bt] (C0 183 [(iv 121),q] (z (S 52 n none (some (.pv a)) fun t=>Q0 22 [t,r] (C0 184 [(iv 120),q] (w2 fun u v=>O0 [h,i,j,k,l,m,n,o,p,q,u,v])) (C0 183 [(iv 120),q] (z (A3 a i1 fun u=>Y 62 [u,b,c,d,e,f,g,h,i,j,k,l,m,n,o,p,q]))))))) (v1 fun s=>mz [bf] (C0 184 [(iv 121),q] (w2 fun t u=>O0 [h,i,j,k,l,m,n,o,p,q,t,u]))))) (O 1 [h,i,j,k,l,m,n,o,p,q,d,e,f,g])
def g76ab6a(a b c d e f g h:PV):T:=L3 a b (X 24 c a (w6 fun i j k l m n=>C0 193 [e,f,g,i] (w1 fun o=>Q0 22 [o,i] (C0 184 [(iv 124),n] (w2 fun p q=>O0 [e,f,g,h,p,q])) (C0 183 [(iv 124),n] (z (A3 a i1 fun p=>Y 63 [p,b,c,d,e,f,g,h])))))) (O 1 [e,f,g,h,d])
def g76ab8a(a b c d e f g h:PV):T:=L3 a b (X 24 c a (w6 fun i j k l m n=>L 75 l fun o=>D 65 [i0,o,l,a,b,c,d,e,f,g,h,i,j,k,l,m,n] 1 0 (v1 fun p=>mz [e,f,g,h,i,j,k,l,m,n,a,b,c] (D 75 [m,i,j,k,l,m,n,e,f,g,h] 0 1 (mz [e,f,g,h] (A3 a i1 fun q=>Y 64 [q,b,c,p,e,f,g,h])) (ms [e,f,g,h] (w2 fun q r=>O0 [p,e,f,g,h,q,r])))) (v1 fun p=>ms [e,f,g,h,i,j,k,l,m,n] (w2 fun q r=>O0 [p,e,f,g,h,q,r])))) (O 1 [d,e,f,g,h])
def g76ab10a(a b c d e f g h i j k l m n o p q:PV):T:=L3 a b (X 75 c a (w6 fun r s t u v w=>J (WI 161 g (.pv r) false bt (C0 184 [(iv 120),w] (w2 fun x y=>O0 [g,h,i,j,k,l,m,n,o,p,q,x,y]))) (WI 161 g (.pv r) false bf (C0 183 [(iv 120),w] (z (Z 161 g (.pv r) (.pv bt) fun x=>C0 3 [h,i,j,(.rows [[m]]),s,t,u,v] (w1 fun y=>TW .eql 33 y i0 (C0 183 [y,w] (z (Q0 189 [s,t,u,v] (C0 183 [(iv 123),w] (z (A3 a i1 fun a0=>Y 65 [a0,b,c,d,e,f,x,h,i,j,k,l,m,n,o,p,q]))) (C0 184 [(iv 123),w] (w2 fun a0 b0=>O0 [x,h,i,j,k,l,m,n,o,p,q,a0,b0]))))) (C0 184 [y,w] (w2 fun a0 b0=>O0 [x,h,i,j,k,l,m,n,o,p,q,a0,b0]))))))))) (O 1 [g,h,i,j,k,l,m,n,o,p,q,d,e,f])
def g77a(a b c d e:PV):T:=X 25 d a (w8 fun f g h i j k l m=>D 7 [b,c,d,f] 0 0 (v1 fun n=>mz [bt] (C0 183 [(iv 121),m] (z (D 77 [f,g,h,i,j,k,l,m,b,c,d,e] 0 1 (mz [b,c,d,e] (J (WT 95 e (.agg [(.pv f),(.pv h)]) true bt fun o=>C0 184 [(iv 125),m] (w2 fun p q=>O0 [b,c,d,e,p,q])) (WT 95 e (.agg [(.pv f),(.pv h)]) true bf fun o=>C0 183 [(iv 125),m] (z (Z 95 e (.agg [(.pv f),(.pv h)]) (.pv a) fun p=>L 79 k fun q=>D 67 [i0,q,k,n,b,c,d,p,f,g,h,i,j,k,l,m] 1 0 (mz [b,c,d,p,f,g,h,i,j,k,l,m,n] (X 24 c n (w6 fun r s t u v w=>D 75 [l,r,s,t,u,v,w,b,c,d,p] 0 1 (mz [b,c,d,p] (L 75 u fun x=>D 68 [i0,x,u,f,g,h,i,j,k,l,m,r,s,t,u,v,w] 1 0 (mz [f,g,h,i,j,k,l,m,r,s,t,u,v,w] (O 1 [b,c,d,p])) (ms [f,g,h,i,j,k,l,m,r,s,t,u,v,w] (w2 fun y a0=>O0 [b,c,d,p,y,a0])))) (ms [b,c,d,p] (w2 fun x y=>O0 [b,c,d,p,x,y]))))) (ms [b,c,d,p,f,g,h,i,j,k,l,m] (w2 fun r s=>O0 [b,c,d,p,r,s]))))))) (ms [b,c,d,e] (w2 fun o p=>O0 [b,c,d,e,o,p])))))) (v1 fun n=>mz [bf] (C0 184 [(iv 121),m] (w2 fun o p=>O0 [b,c,d,e,o,p]))))
def g77ab0a(a b c d e f g h i j k l m n o p:PV):T:=L3 a b (X 79 c a (w5 fun q r s t u=>D 7 [e,f,g,q] 0 0 (v1 fun v=>mz [bt] (C0 183 [(iv 121),p] (z (D 79 [m,q,r,s,t,u] 0 0 (ms [q,r,s,t,u] (v1 fun w=>mz [bt] (C0 183 [(iv 123),p] (z (S 79 n none (some (.pv a)) fun x=>D 80 [x,q,r,s,t,u] 0 0 (ms [q,r,s,t,u] (v1 fun y=>mz [bt] (C0 184 [(iv 120),p] (w2 fun a0 b0=>O0 [e,f,g,h,i,j,k,l,m,n,o,p,a0,b0])))) (ms [q,r,s,t,u] (v1 fun y=>mz [bf] (C0 183 [(iv 120),p] (z (A3 a i1 fun a0=>Y 67 [a0,b,c,d,e,f,g,h,i,j,k,l,m,n,o,p])))))))))) (ms [q,r,s,t,u] (v1 fun w=>mz [bf] (C0 184 [(iv 123),p] (w2 fun x y=>O0 [e,f,g,h,i,j,k,l,m,n,o,p,x,y])))))))) (v1 fun v=>mz [bf] (C0 184 [(iv 121),p] (w2 fun w x=>O0 [e,f,g,h,i,j,k,l,m,n,o,p,w,x]))))) (O 1 [e,f,g,h,i,j,k,l,m,n,o,p,d])
def g77ab2a(a b c d e f g h i j k l m n o p q:PV):T:=L3 a b (X 75 c a (w6 fun r s t u v w=>D 81 [j,r,s,t,u,v,w] 0 0 (mz [r,s,t,u,v,w,bt] (C0 183 [(iv 128),k] (z (A3 a i1 fun x=>Y 68 [x,b,c,d,e,f,g,h,i,j,k,l,m,n,o,p,q])))) (mz [r,s,t,u,v,w,bf] (D 81 [p,r,s,t,u,v,w] 0 0 (mz [r,s,t,u,v,w,bt] (C0 183 [(iv 128),k] (z (A3 a i1 fun x=>Y 68 [x,b,c,d,e,f,g,h,i,j,k,l,m,n,o,p,q])))) (mz [r,s,t,u,v,w,bf] (C0 184 [(iv 128),k] (w2 fun x y=>O0 [d,e,f,g,h,i,j,k,l,m,n,o,p,q,x,y]))))))) (O 1 [d,e,f,g,h,i,j,k,l,m,n,o,p,q])
def g78a(a b c d e f g h i j k l:PV):T:=D 7 [i,j,k,a] 0 0 (v1 fun m=>mz [bt] (X 24 j m (w6 fun n o p q r s=>L 52 p fun t=>D 70 [i0,t,p,i,j,k,l,a,b,c,d,e,f,g,h] 1 0 (mz [i,j,k,l,a,b,c,d,e,f,g,h] (O0 [i,j,k,l])) (ms [i,j,k,l,a,b,c,d,e,f,g,h] (w2 fun u v=>O 1 [i,j,k,l,u,v]))))) (v1 fun m=>mz [bf] (X 24 j m (w6 fun n o p q r s=>L 52 p fun t=>D 70 [i0,t,p,i,j,k,l,a,b,c,d,e,f,g,h] 1 0 (mz [i,j,k,l,a,b,c,d,e,f,g,h] (O0 [i,j,k,l])) (ms [i,j,k,l,a,b,c,d,e,f,g,h] (w2 fun u v=>O 1 [i,j,k,l,u,v])))))
def g78ab0a(a b c d e f g h i j k l m n o:PV):T:=L3 a b (X 52 c a (w1 fun p=>J (WT 95 g (.agg [(.pv p),(.pv j)]) true bt fun q=>C0 183 [(iv 126),o] (z (X 25 f q (w8 fun r s t u v w x y=>L 79 w fun a0=>D 71 [i0,a0,w,a,b,c,r,s,t,u,v,w,x,y,d,e,f,g,h,i,j,k,l,m,n,o] 1 0 (mz [r,s,t,u,v,w,x,y,d,e,f,g,h,i,j,k,l,m,n,o,a,b,c] (A3 a i1 fun b0=>Y 70 [b0,b,c,d,e,f,g,h,i,j,k,l,m,n,o])) (ms [r,s,t,u,v,w,x,y,d,e,f,g,h,i,j,k,l,m,n,o] (w2 fun b0 c0=>O0 [d,e,f,g,h,i,j,k,l,m,n,o,b0,c0])))))) (WT 95 g (.agg [(.pv p),(.pv j)]) true bf fun q=>C0 184 [(iv 126),o] (w2 fun r s=>O0 [d,e,f,g,h,i,j,k,l,m,n,o,r,s])))) (O 1 [d,e,f,g,h,i,j,k,l,m,n,o])
def g78ab2a(a b c d e f g h i j k l m n o p q r s t u v w x y a0:PV):T:=L3 a b (X 79 c a (w5 fun b0 c0 d0 f0 g0=>D 82 [k,b0,c0,d0,f0,g0] 0 0 (ms [b0,c0,d0,f0,g0] (v1 fun h0=>mz [bt] (X 45 w h0 (w4 fun j0 k0 l0 m0=>D 83 [s,t,u,v,w,x,y,a0,b0,k0,o,p,q,r] 0 0 (mz [o,p,q,r,bt] (C0 183 [(iv 126),a0] (z (A3 a i1 fun n0=>Y 71 [n0,b,c,d,e,f,g,h,i,j,k,l,m,n,o,p,q,r,s,t,u,v,w,x,y,a0])))) (mz [o,p,q,r,bf] (C0 184 [(iv 126),a0] (w2 fun n0 o0=>O0 [g,h,i,j,k,l,m,n,o,p,q,r,s,t,u,v,w,x,y,a0,n0,o0]))))))) (ms [b0,c0,d0,f0,g0] (v1 fun h0=>mz [bf] (X 45 w h0 (w4 fun j0 k0 l0 m0=>D 83 [s,t,u,v,w,x,y,a0,b0,k0,o,p,q,r] 0 0 (mz [o,p,q,r,bt] (C0 183 [(iv 126),a0] (z (A3 a i1 fun n0=>Y 71 [n0,b,c,d,e,f,g,h,i,j,k,l,m,n,o,p,q,r,s,t,u,v,w,x,y,a0])))) (mz [o,p,q,r,bf] (C0 184 [(iv 126),a0] (w2 fun n0 o0=>O0 [g,h,i,j,k,l,m,n,o,p,q,r,s,t,u,v,w,x,y,a0,n0,o0]))))))))) (O 1 [g,h,i,j,k,l,m,n,o,p,q,r,s,t,u,v,w,x,y,a0,d,e,f])
def g79a(a b c d e f g h i j k l m n:PV):T:=C0 84 [a,b,c,d,e,f,g,h,i,j,k,l,m,n] (ms [b,c,d,e,f,g,h,i,j,k,l,m,n] (w1 fun o=>M false o i0 fun p=>H3 o i0 (O0 [b,c,d,e,f,g,h,i,j,k,l,m,n,p,bt]) (O0 [b,c,d,e,f,g,h,i,j,k,l,m,n,p,bf])))
def g52k(a b c d e f:PV):T:=C0 86 [a,b,c,d,e,f] (ms [b,c,d,e,f] (w1 fun g=>M false g i0 fun h=>H3 g i0 (O0 [b,c,d,e,f,h,bt]) (O0 [b,c,d,e,f,h,bf])))
def g57k(a b c d e f g:PV):T:=C0 88 [a,b,c,d,e,f,g] (ms [b,c,d,e,f,g] (w1 fun h=>M false h i0 fun i=>H3 h i0 (O0 [b,c,d,e,f,g,i,bt]) (O0 [b,c,d,e,f,g,i,bf])))
def g108a(a b c d e f g h i j k:PV):T:=L 26 a fun l=>D 76 [i0,l,a,a,b,c,d,e,f,g] 1 0 (mz [b,c,d,e,f,g] (O0 [h,i,j,k])) (ms [b,c,d,e,f,g] (w2 fun m n=>O 1 [h,i,j,k,m,n]))
def g108ab0a(a b c d e f g h i j:PV):T:=L3 a b (X 26 c a (w13 fun k l m n o p q r s t u v w=>D 90 [h,k,l,m,n,o,p,q,r,s,t,u,v,w] 0 0 (ms [k,l,m,n,o,p,q,r,s,t,u,v,w] (v1 fun x=>mz [bt] (C0 183 [(iv 121),w] (z (S 26 d none (some (.pv a)) fun y=>D 91 [y,k,l,m,n,o,p,q,r,s,t,u,v,w] 0 0 (ms [k,l,m,n,o,p,q,r,s,t,u,v,w] (v1 fun a0=>mz [bt] (C0 184 [(iv 120),w] (w2 fun b0 c0=>O0 [e,f,g,h,i,j,b0,c0])))) (ms [k,l,m,n,o,p,q,r,s,t,u,v,w] (v1 fun a0=>mz [bf] (C0 183 [(iv 120),w] (z (E3 l i6 (C0 183 [(iv 130),w] (z (A3 a i1 fun b0=>Y 76 [b0,b,c,d,e,f,g,h,i,j]))) (C0 184 [(iv 130),w] (w2 fun b0 c0=>O0 [e,f,g,h,i,j,b0,c0])))))))))))) (ms [k,l,m,n,o,p,q,r,s,t,u,v,w] (v1 fun x=>mz [bf] (C0 184 [(iv 121),w] (w2 fun y a0=>O0 [e,f,g,h,i,j,y,a0])))))) (O 1 [e,f,g,h,i,j])
def g109a(a b c d e f g h i j k l:PV):T:=D 0 [i,j,k,c] 0 0 (v1 fun m=>mz [bt] (E3 b i3 (N9 c z0 (C0 183 [(iv 127),h] (z (L 45 e fun n=>E3 m n (C0 183 [(iv 122),h] (z (D 78 [i0,n,e,a,b,c,d,e,f,g,h] 1 0 (mz [a,b,c,d,e,f,g,h] (O0 [i,j,k,l])) (ms [a,b,c,d,e,f,g,h] (w2 fun o p=>O 1 [i,j,k,l,o,p]))))) (C0 184 [(iv 122),h] (w2 fun o p=>O 1 [i,j,k,l,o,p]))))) (C0 184 [(iv 127),h] (w2 fun n o=>O 1 [i,j,k,l,n,o]))) (C0 184 [(iv 127),h] (w2 fun n o=>O 1 [i,j,k,l,n,o])))) (v1 fun m=>mz [bf] (C0 184 [(iv 127),h] (w2 fun n o=>O 1 [i,j,k,l,n,o])))
def g109ab0a(a b c d e f g h i j k:PV):T:=L3 a b (X 45 c a (w4 fun l m n o=>S 45 h none (some (.pv a)) fun p=>D 92 [p,l,m,n,o] 0 0 (ms [l,m,n,o] (v1 fun q=>mz [bt] (E3 l i1 (L 45 o fun r=>E3 r i0 (C0 184 [(iv 127),k] (w2 fun s t=>O0 [d,e,f,g,h,i,j,k,s,t])) (C0 184 [(iv 127),k] (w2 fun s t=>O0 [d,e,f,g,h,i,j,k,s,t]))) (C0 184 [(iv 127),k] (w2 fun r s=>O0 [d,e,f,g,h,i,j,k,r,s]))))) (ms [l,m,n,o] (v1 fun q=>mz [bf] (E3 l i1 (L 45 o fun r=>E3 r i0 (C0 183 [(iv 127),k] (z (A3 a i1 fun s=>Y 78 [s,b,c,d,e,f,g,h,i,j,k]))) (C0 184 [(iv 127),k] (w2 fun s t=>O0 [d,e,f,g,h,i,j,k,s,t]))) (C0 184 [(iv 127),k] (w2 fun r s=>O0 [d,e,f,g,h,i,j,k,r,s]))))))) (O 1 [d,e,f,g,h,i,j,k])
def g110a(a b c d e f:PV):T:=C0 93 [a,b,c,d,e,f] (ms [b,c,d,e,f] (w1 fun g=>M false g i0 fun h=>H3 g i0 (O0 [b,c,d,e,f,h,bt]) (O0 [b,c,d,e,f,h,bf])))
def g112a(a b c d e f:PV):T:=C0 95 [a,b,c,d,e,f] (ms [b,c,d,e,f] (w1 fun g=>M false g i0 fun h=>H3 g i0 (O0 [b,c,d,e,f,h,bt]) (O0 [b,c,d,e,f,h,bf])))
def g115a(a b c d e f g:PV):T:=C0 97 [a,b,c,d,e,f,g] (ms [b,c,d,e,f,g] (w1 fun h=>H3 h i0 (O0 [b,c,d,e,f,g,bt]) (O0 [b,c,d,e,f,g,bf])))
def g110b(a b c d e f:PV):T:=C0 99 [a,b,c,d,e,f] (ms [b,c,d,e,f] (w1 fun g=>M false g i0 fun h=>H3 g i0 (O0 [b,c,d,e,f,h,bt]) (O0 [b,c,d,e,f,h,bf])))
def g117a(a b c d e f g h i j k l m n:PV):T:=D 101 [f,j,i,k,l,m,n] 0 0 (mz [j,i,k,l,m,n,bt] (O0 [k,l,m,n,bt])) (mz [j,i,k,l,m,n,bf] (O0 [k,l,m,n,bf]))
def g118a(a b c d e f g h i j k l m n:PV):T:=L 26 a fun o=>D 85 [i0,o,a,b,c,d,e,f,g,h,i,j,k,l,m,n] 1 0 (mz [b,c,d,e,f,g,h,i,j,k,l,m,n] (O0 [b,c,d,e,f,g,h,i,j,k,l,m,n,(iv (-1))])) (ms [b,c,d,e,f,g,h,i,j,k,l,m,n] (w1 fun p=>O0 [b,c,d,e,f,g,h,i,j,k,l,m,n,p]))
def g118ab0a(a b c d e f g h i j k l m n o p:PV):T:=L3 a b (X 26 c a (w13 fun q r s t u v w x y a0 b0 c0 d0=>D 102 [q,r,s,t,u,v,w,x,y,a0,b0,c0,d0,d,e,f,g,h,i,j,k,l,m,n,o,p] 0 0 (mz [d,e,f,g,h,i,j,k,l,m,n,o,p,bt] (O0 [d,e,f,g,h,i,j,k,l,m,n,o,p,a])) (mz [d,e,f,g,h,i,j,k,l,m,n,o,p,bf] (A3 a i1 fun f0=>Y 85 [f0,b,c,d,e,f,g,h,i,j,k,l,m,n,o,p])))) (O 1 [d,e,f,g,h,i,j,k,l,m,n,o,p])
def g92k(a b c d e f:PV):T:=L 23 a fun g=>D 87 [i0,g,a,b,c,d,e,f] 3 2 (mz [b,c,d,e,f] (O0 [b,c,d,e,f,(iv (-1))])) (ms [b,c,d,e,f] (w1 fun h=>O0 [b,c,d,e,f,h]))
def g92kb0a(a b c d e f g h:PV):T:=L3 a b (X 23 c a (w5 fun i j k l m=>D 103 [i,j,k,l,m,d,e,f,g,h] 0 0 (mz [d,e,f,g,h,bt] (O 2 [d,e,f,g,h,a])) (mz [d,e,f,g,h,bf] (A3 a i1 fun n=>Y 87 [n,b,c,d,e,f,g,h])))) (O 3 [d,e,f,g,h])
def g95k(a b c d e f g:PV):T:=L 24 a fun h=>D 89 [i0,h,a,b,c,d,e,f,g] 3 2 (mz [b,c,d,e,f,g] (O0 [b,c,d,e,f,g,(iv (-1))])) (ms [b,c,d,e,f,g] (w1 fun i=>O0 [b,c,d,e,f,g,i]))
def g95kb0a(a b c d e f g h i:PV):T:=L3 a b (X 24 c a (w6 fun j k l m n o=>D 104 [j,k,l,m,n,o,d,e,f,g,h,i] 0 0 (mz [d,e,f,g,h,i,bt] (O 2 [d,e,f,g,h,i,a])) (mz [d,e,f,g,h,i,bf] (A3 a i1 fun p=>Y 89 [p,b,c,d,e,f,g,h,i])))) (O 3 [d,e,f,g,h,i])
def g59k(a b c d e f g h i j k l m n:PV):T:=C0 105 [a,b,c,d,e,f,g,h,i,j,k,l,m,n] (ms [b,c,d,e,f,g,h,i,j,k,l,m,n] (w1 fun o=>M false o i0 fun p=>H3 o i0 (O0 [b,c,d,e,f,g,h,i,j,k,l,m,n,p,bt]) (O0 [b,c,d,e,f,g,h,i,j,k,l,m,n,p,bf])))
def g79b(a b c d e f g h i j k l m n:PV):T:=C0 107 [a,b,c,d,e,f,g,h,i,j,k,l,m,n] (ms [b,c,d,e,f,g,h,i,j,k,l,m,n] (w1 fun o=>M false o i0 fun p=>H3 o i0 (O0 [b,c,d,e,f,g,h,i,j,k,l,m,n,p,bt]) (O0 [b,c,d,e,f,g,h,i,j,k,l,m,n,p,bf])))
def g110c(a b c d e:PV):T:=C0 109 [a,b,c,d,e] (ms [b,c,d,e] (w1 fun f=>M false f i0 fun g=>H3 f i0 (O0 [b,c,d,e,g,bt]) (O0 [b,c,d,e,g,bf])))
def g143a(a b c d e f:PV):T:=L 45 a fun g=>D 94 [i0,g,a,b,c,d,e,f] 1 0 (mz [b,c,d,e,f] (O0 [b,c,d,e,f,(iv (-1))])) (ms [b,c,d,e,f] (w1 fun h=>O0 [b,c,d,e,f,h]))
def g143ab0a(a b c d e f g h:PV):T:=L3 a b (X 45 c a (w4 fun i j k l=>D 111 [i,j,k,l,d,e,f,g,h] 0 0 (mz [d,e,f,g,h,bt] (O0 [d,e,f,g,h,a])) (mz [d,e,f,g,h,bf] (A3 a i1 fun m=>Y 94 [m,b,c,d,e,f,g,h])))) (O 1 [d,e,f,g,h])
def g144a(a b c d e f:PV):T:=L 79 a fun g=>D 96 [i0,g,a,b,c,d,e,f] 1 0 (mz [b,c,d,e,f] (O0 [b,c,d,e,f,(iv (-1))])) (ms [b,c,d,e,f] (w1 fun h=>O0 [b,c,d,e,f,h]))
def g144ab0a(a b c d e f g h:PV):T:=L3 a b (X 79 c a (w5 fun i j k l m=>D 112 [i,j,k,l,m,d,e,f,g,h] 0 0 (mz [d,e,f,g,h,bt] (O0 [d,e,f,g,h,a])) (mz [d,e,f,g,h,bf] (A3 a i1 fun n=>Y 96 [n,b,c,d,e,f,g,h])))) (O 1 [d,e,f,g,h])
def g118b(a b c d e f g:PV):T:=L 26 a fun h=>D 98 [i0,h,a,b,c,d,e,f,g] 3 2 (mz [b,c,d,e,f,g] (O0 [b,c,d,e,f,g,(iv (-1))])) (ms [b,c,d,e,f,g] (w1 fun i=>O0 [b,c,d,e,f,g,i]))
def g118bb0a(a b c d e f g h i:PV):T:=L3 a b (X 26 c a (w13 fun j k l m n o p q r s t u v=>D 113 [j,k,l,m,n,o,p,q,r,s,t,u,v,d,e,f,g,h,i] 0 0 (mz [d,e,f,g,h,i,bt] (O 2 [d,e,f,g,h,i,a])) (mz [d,e,f,g,h,i,bf] (A3 a i1 fun w=>Y 98 [w,b,c,d,e,f,g,h,i])))) (O 3 [d,e,f,g,h,i])
def g143b(a b c d e f:PV):T:=L 45 a fun g=>D 100 [i0,g,a,b,c,d,e,f] 1 0 (mz [b,c,d,e,f] (O0 [b,c,d,e,f,(iv (-1))])) (ms [b,c,d,e,f] (w1 fun h=>O0 [b,c,d,e,f,h]))
def g143bb0a(a b c d e f g h:PV):T:=L3 a b (X 45 c a (w4 fun i j k l=>D 114 [i,j,k,l,d,e,f,g,h] 0 0 (mz [d,e,f,g,h,bt] (O0 [d,e,f,g,h,a])) (mz [d,e,f,g,h,bf] (A3 a i1 fun m=>Y 100 [m,b,c,d,e,f,g,h])))) (O 1 [d,e,f,g,h])
def g145a(a b c d e f g:PV):T:=C0 115 [a,b,c,d,e,f,g] (ms [b,c,d,e,f,g] (w1 fun h=>H3 h i0 (O0 [b,c,d,e,f,g,bt]) (O0 [b,c,d,e,f,g,bf])))
def g80a(a b c d e f g h i j k l m n o p q r s t u v w x y a0:PV):T:=E9 a n (O0 [n,o,p,q,r,s,t,u,v,w,x,y,a0,bt]) (O0 [n,o,p,q,r,s,t,u,v,w,x,y,a0,bf])
def g105a(a b c d e f g h i j:PV):T:=E9 a f (O0 [f,g,h,i,j,bt]) (O0 [f,g,h,i,j,bf])
def g106a(a b c d e f g h i j k l:PV):T:=E9 a g (O0 [g,h,i,j,k,l,bt]) (O0 [g,h,i,j,k,l,bf])
def g96k(a b c d e f g h i j k l m n:PV):T:=L 75 a fun o=>D 106 [i0,o,a,b,c,d,e,f,g,h,i,j,k,l,m,n] 3 2 (mz [b,c,d,e,f,g,h,i,j,k,l,m,n] (O0 [b,c,d,e,f,g,h,i,j,k,l,m,n,(iv (-1))])) (ms [b,c,d,e,f,g,h,i,j,k,l,m,n] (w1 fun p=>O0 [b,c,d,e,f,g,h,i,j,k,l,m,n,p]))
def g96kb0a(a b c d e f g h i j k l m n o p:PV):T:=L3 a b (X 75 c a (w6 fun q r s t u v=>D 117 [q,r,s,t,u,v,d,e,f,g,h,i,j,k,l,m,n,o,p] 0 0 (mz [d,e,f,g,h,i,j,k,l,m,n,o,p,bt] (O 2 [d,e,f,g,h,i,j,k,l,m,n,o,p,a])) (mz [d,e,f,g,h,i,j,k,l,m,n,o,p,bf] (A3 a i1 fun w=>Y 106 [w,b,c,d,e,f,g,h,i,j,k,l,m,n,o,p])))) (O 3 [d,e,f,g,h,i,j,k,l,m,n,o,p])
def g118c(a b c d e f g h i j k l m n:PV):T:=L 26 a fun o=>D 108 [i0,o,a,b,c,d,e,f,g,h,i,j,k,l,m,n] 1 0 (mz [b,c,d,e,f,g,h,i,j,k,l,m,n] (O0 [b,c,d,e,f,g,h,i,j,k,l,m,n,(iv (-1))])) (ms [b,c,d,e,f,g,h,i,j,k,l,m,n] (w1 fun p=>O0 [b,c,d,e,f,g,h,i,j,k,l,m,n,p]))
def g118cb0a(a b c d e f g h i j k l m n o p:PV):T:=L3 a b (X 26 c a (w13 fun q r s t u v w x y a0 b0 c0 d0=>D 118 [q,r,s,t,u,v,w,x,y,a0,b0,c0,d0,d,e,f,g,h,i,j,k,l,m,n,o,p] 0 0 (mz [d,e,f,g,h,i,j,k,l,m,n,o,p,bt] (O0 [d,e,f,g,h,i,j,k,l,m,n,o,p,a])) (mz [d,e,f,g,h,i,j,k,l,m,n,o,p,bf] (A3 a i1 fun f0=>Y 108 [f0,b,c,d,e,f,g,h,i,j,k,l,m,n,o,p])))) (O 1 [d,e,f,g,h,i,j,k,l,m,n,o,p])
def g143c(a b c d e:PV):T:=L 45 a fun f=>D 110 [i0,f,a,b,c,d,e] 3 2 (mz [b,c,d,e] (O0 [b,c,d,e,(iv (-1))])) (ms [b,c,d,e] (w1 fun g=>O0 [b,c,d,e,g]))
def g143cb0a(a b c d e f g:PV):T:=L3 a b (X 45 c a (w4 fun h i j k=>D 119 [h,i,j,k,d,e,f,g] 0 0 (mz [d,e,f,g,bt] (O 2 [d,e,f,g,a])) (mz [d,e,f,g,bf] (A3 a i1 fun l=>Y 110 [l,b,c,d,e,f,g])))) (O 3 [d,e,f,g])
def g111a(a b c d e f g h i:PV):T:=E3 f i1 (E9 b g (O0 [e,f,g,h,i,bt]) (O0 [e,f,g,h,i,bf])) (O0 [e,f,g,h,i,bf])
def g113a(a b c d e f g h i j:PV):T:=E9 a f (E9 c h (O0 [f,g,h,i,j,bt]) (O0 [f,g,h,i,j,bf])) (O0 [f,g,h,i,j,bf])
def g114a(a b c d e f g h i j k l m n o p q r s:PV):T:=E9 a n (O0 [n,o,p,q,r,s,bt]) (O0 [n,o,p,q,r,s,bf])
def g116a(a b c d e f g h i:PV):T:=E9 b g (O0 [e,f,g,h,i,bt]) (O0 [e,f,g,h,i,bf])
def g144b(a b c d e f g:PV):T:=L 79 a fun h=>D 116 [i0,h,a,b,c,d,e,f,g] 1 0 (mz [b,c,d,e,f,g] (O0 [b,c,d,e,f,g,(iv (-1))])) (ms [b,c,d,e,f,g] (w1 fun i=>O0 [b,c,d,e,f,g,i]))
def g144bb0a(a b c d e f g h i:PV):T:=L3 a b (X 79 c a (w5 fun j k l m n=>D 120 [j,k,l,m,n,d,e,f,g,h,i] 0 0 (mz [d,e,f,g,h,i,bt] (O0 [d,e,f,g,h,i,a])) (mz [d,e,f,g,h,i,bf] (A3 a i1 fun o=>Y 116 [o,b,c,d,e,f,g,h,i])))) (O 1 [d,e,f,g,h,i])
def g140a(a b c d e f g h i j k l m n o p q r s:PV):T:=E9 a g (O0 [g,h,i,j,k,l,m,n,o,p,q,r,s,bt]) (O0 [g,h,i,j,k,l,m,n,o,p,q,r,s,bf])
def g141a(a b c d e f g h i j k l m n o p q r s t u v w x y a0:PV):T:=E9 a n (O0 [n,o,p,q,r,s,t,u,v,w,x,y,a0,bt]) (O0 [n,o,p,q,r,s,t,u,v,w,x,y,a0,bf])
def g142a(a b c d e f g h:PV):T:=E9 b f (O0 [e,f,g,h,bt]) (O0 [e,f,g,h,bf])
def g146a(a b c d e f g h i j k:PV):T:=E9 c f (E9 a g (O0 [f,g,h,i,j,k,bt]) (C0 193 [h,i,j,a] (w1 fun l=>Q0 22 [l,g] (O0 [f,g,h,i,j,k,bt]) (O0 [f,g,h,i,j,k,bf])))) (O0 [f,g,h,i,j,k,bf])
def g9(a b c d:PV):T:=C0 125 [a,b,c] (w2 fun e f=>N3 e i0 (O0 [e,f]) (C0 137 [a,b,c] (w2 fun g h=>N3 g i0 (O0 [g,h]) (D 122 [i0,a,b,c,g,h,i0,i0,a,b,c,d] 1 0 (ms [a,b,c] (v4 fun i j k l=>mz [a,b,c,d] (D 123 [i0,a,b,c,k,l,a,b,c,d] 1 0 (ms [a,b,c] (v2 fun m n=>mz [a,b,c,d] (D 124 [i0,a,b,c,d,a,b,c,m,n] 1 0 (ms [a,b,c,d,a,b,c] (w2 fun o p=>O0 [i0,i0])) (ms [a,b,c,d,a,b,c] (w2 fun o p=>O0 [o,p]))))) (ms [a,b,c] (v2 fun m n=>mz [a,b,c,d] (O0 [m,n])))))) (ms [a,b,c] (v4 fun i j k l=>mz [a,b,c,d] (O0 [k,l])))))))
def g9b0a(a b c d e f g h i j k l:PV):T:=L 25 d fun m=>L3 a m (C0 151 [b,c,d,a] (w2 fun n o=>N3 n i0 (O0 [b,c,d,n,o,n,o,i,j,k,l]) (A3 a i1 fun p=>Y 122 [p,b,c,d,n,o,g,h,i,j,k,l]))) (O 1 [b,c,d,e,f,g,h,i,j,k,l])
def g9b2a(a b c d e f g h i j:PV):T:=L 25 d fun k=>L3 a k (X 25 d a (w8 fun l m n o p q r s=>Q0 156 [b,c,d,l,m,n,o,p,q,r,s] (A3 a i1 fun t=>Y 123 [t,b,c,d,e,f,g,h,i,j]) (O0 [b,c,d,(iv 126),s,g,h,i,j]))) (O 1 [b,c,d,e,f,g,h,i,j])
def g9b4a(a b c d e f g h i j:PV):T:=L 26 e fun k=>L3 a k (X 26 e a (w13 fun l m n o p q r s t u v w x=>C0 12 [f,g,h,l] (w2 fun y a0=>H3 y i0 (O0 [b,c,d,e,f,g,h,(iv 120),x]) (S 26 e none (some (.pv a)) fun b0=>D 171 [b0] 0 1 (mz [nS] (Q0 19 [(.rows []),l] (O0 [b,c,d,e,f,g,h,(iv 120),x]) (A3 a i1 fun c0=>Y 124 [c0,b,c,d,e,f,g,h,i,j]))) (w1 fun c0=>Q0 19 [c0,l] (O0 [b,c,d,e,f,g,h,(iv 120),x]) (A3 a i1 fun d0=>Y 124 [d0,b,c,d,e,f,g,h,i,j])))))) (O 1 [b,c,d,e,f,g,h,i,j])
def g40(a b c:PV):T:=D 126 [i0,a,b,c,i0,i0] 1 0 (ms [a,b,c] (w2 fun d e=>D 128 [i0,a,b,c,d,e] 1 0 (ms [a,b,c] (w2 fun f g=>O0 [i0,i0])) (ms [a,b,c] (w2 fun f g=>O0 [f,g])))) (ms [a,b,c] (w2 fun d e=>O0 [d,e]))
def g40b0a(a b c d e f:PV):T:=L 23 b fun g=>L3 a g (X 23 b a (w5 fun h i j k l=>E9 h z3 (O0 [b,c,d,(iv 120),l]) (E9 h z2 (O0 [b,c,d,(iv 120),l]) (E9 h z1 (O0 [b,c,d,(iv 120),l]) (E9 h z0 (O0 [b,c,d,(iv 120),l]) (D 127 [i0,a,b,c,d,h,i,j,k,l,e,f] 1 0 (ms [b,c,d,h,i,j,k,l] (v2 fun m n=>mz [a] (A3 a i1 fun o=>Y 126 [o,b,c,d,m,n]))) (ms [b,c,d,h,i,j,k,l] (w2 fun m n=>O0 [b,c,d,m,n])))))))) (O 1 [b,c,d,e,f])
def g40b2a(a b c d e f g h i j k l:PV):T:=L3 a b (X 23 c a (w5 fun m n o p q=>E9 m f (O0 [c,d,e,f,g,h,i,j,(iv 120),j]) (A3 a i1 fun r=>Y 127 [r,b,c,d,e,f,g,h,i,j,k,l]))) (O 1 [c,d,e,f,g,h,i,j,k,l,b])
def g40b4a(a b c d e f:PV):T:=L 23 b fun g=>L3 a g (X 23 b a (w5 fun h i j k l=>D 130 [i0,a,h,i,j,k,l,e,f,b,c,d] 1 0 (ms [h,i,j,k,l] (v2 fun m n=>mz [b,c,d,nS,a] (J (D 132 [i0,a,h,i,j,k,l,m,n,b,c,d] 1 2 (ms [h,i,j,k,l] (v2 fun o p=>mz [b,c,d,a,nS] (A3 a i1 fun q=>Y 128 [q,b,c,d,o,p]))) (ms [h,i,j,k,l] (v2 fun o p=>ms [b,c,d,a] (w1 fun q=>A3 a i1 fun r=>Y 129 [r,q,b,c,d,o,p])))) (C0 132 [i0,a,h,i,j,k,l,m,n,b,c,d] (ms [h,i,j,k,l] (v2 fun o p=>mz [b,c,d] (O0 [b,c,d,o,p]))))))) (ms [h,i,j,k,l] (v2 fun m n=>mz [b,c,d] (O0 [b,c,d,m,n]))))) (O 1 [b,c,d,e,f])
def g40b4b(a b c d e f g:PV):T:=L 23 c fun h=>L3 a h (X 23 c a (w5 fun i j k l m=>D 131 [i0,b,a,i,j,k,l,m,f,g,c,d,e] 1 0 (ms [i,j,k,l,m] (v2 fun n o=>mz [c,d,e,b,a] (J (D 133 [i0,b,a,i,j,k,l,m,n,o,c,d,e] 2 3 (ms [i,j,k,l,m] (v2 fun p q=>mz [c,d,e,a,b] (A3 a i1 fun r=>Y 129 [r,b,c,d,e,p,q]))) (ms [i,j,k,l,m] (v2 fun p q=>ms [c,d,e,a] (w1 fun r=>A3 a i1 fun s=>Y 129 [s,r,c,d,e,p,q])))) (D 133 [i0,b,a,i,j,k,l,m,n,o,c,d,e] 0 1 (ms [i,j,k,l,m] (v2 fun p q=>mz [c,d,e,b] (O0 [c,d,e,p,q]))) (ms [i,j,k,l,m] (v2 fun p q=>mz [c,d,e] (O0 [c,d,e,p,q]))))))) (ms [i,j,k,l,m] (v2 fun n o=>mz [c,d,e,b] (O0 [c,d,e,n,o]))))) (O 1 [c,d,e,f,g])
def g40b6a(a b c d e f g h i j k l:PV):T:=L 52 d fun m=>L3 a m (S 52 d none (some (.pv a)) fun n=>X 52 d a (w1 fun o=>Q0 19 [n,o] (O0 [c,d,e,f,g,(iv 120),g,j,k,l]) (A3 a i1 fun p=>Y 130 [p,b,c,d,e,f,g,h,i,j,k,l]))) (O 1 [c,d,e,f,g,h,i,j,k,l,nS,b])
def g40b6b(a b c d e f g h i j k l m:PV):T:=L 52 e fun n=>L3 a n (S 52 e none (some (.pv a)) fun o=>X 52 e a (w1 fun p=>Q0 19 [o,p] (O0 [d,e,f,g,h,(iv 120),h,k,l,m,b]) (A3 a i1 fun q=>Y 131 [q,b,c,d,e,f,g,h,i,j,k,l,m]))) (O 1 [d,e,f,g,h,i,j,k,l,m,b,c])
def g40b8a(a b c d e f g h i j k l:PV):T:=L 71 e fun m=>L3 a m (X 71 e a (w3 fun n o p=>Q0 19 [(.rows []),n] (O0 [c,d,e,f,g,(iv 120),p,j,k,l]) (L 45 o fun q=>G3 q (iv 60) (O0 [c,d,e,f,g,i3,p,j,k,l]) (D 136 [i0,a,(.rows [[n]]),b,n,o,p,j,k,l,c,d,e,f,g,h,i] 1 0 (ms [n,o,p,j,k,l,c,d,e,f,g] (v2 fun r s=>mz [a,(.rows [[n]]),b] (A3 a i1 fun t=>Y 134 [t,(.rows [[n]]),b,c,d,e,f,g,r,s,j,k,l]))) (ms [n,o,p,j,k,l,c,d,e,f,g] (v2 fun r s=>mz [(.rows [[n]])] (O0 [c,d,e,f,g,r,s,j,k,l]))))))) (O 1 [c,d,e,f,g,h,i,j,k,l,b,nS])
def g40b8b(a b c d e f g h i j k l m:PV):T:=L 71 f fun n=>L3 a n (X 71 f a (w3 fun o p q=>Q0 19 [b,o] (O0 [d,e,f,g,h,(iv 120),q,k,l,m,b]) (P 52 b (.rows [[o]]) fun r=>L 45 p fun s=>G3 s (iv 60) (O 1 [d,e,f,g,h,i3,q,k,l,m]) (D 136 [i0,a,r,c,o,p,q,k,l,m,d,e,f,g,h,i,j] 1 0 (ms [o,p,q,k,l,m,d,e,f,g,h] (v2 fun t u=>mz [a,r,c] (A3 a i1 fun v=>Y 135 [v,r,c,d,e,f,g,h,t,u,k,l,m]))) (ms [o,p,q,k,l,m,d,e,f,g,h] (v2 fun t u=>mz [r] (O 1 [d,e,f,g,h,t,u,k,l,m]))))))) (O 2 [d,e,f,g,h,i,j,k,l,m,c,b])
def g40b8c(a b c d e f g h i j k l m:PV):T:=L 71 f fun n=>L3 a n (X 71 f a (w3 fun o p q=>Q0 19 [b,o] (O0 [d,e,f,g,h,(iv 120),q,k,l,m]) (P 52 b (.rows [[o]]) fun r=>L 45 p fun s=>G3 s (iv 60) (O0 [d,e,f,g,h,i3,q,k,l,m]) (D 136 [i0,a,r,c,o,p,q,k,l,m,d,e,f,g,h,i,j] 1 0 (ms [o,p,q,k,l,m,d,e,f,g,h] (v2 fun t u=>mz [a,r,c] (A3 a i1 fun v=>Y 134 [v,r,c,d,e,f,g,h,t,u,k,l,m]))) (ms [o,p,q,k,l,m,d,e,f,g,h] (v2 fun t u=>mz [r] (O0 [d,e,f,g,h,t,u,k,l,m]))))))) (O 2 [d,e,f,g,h,i,j,k,l,m,c,b])
def g40b8d(a b c d e f g h i j k l m:PV):T:=L 71 f fun n=>L3 a n (X 71 f a (w3 fun o p q=>Q0 19 [b,o] (O 1 [d,e,f,g,h,(iv 120),q,k,l,m]) (P 52 b (.rows [[o]]) fun r=>L 45 p fun s=>G3 s (iv 60) (O 1 [d,e,f,g,h,i3,q,k,l,m]) (D 136 [i0,a,r,c,o,p,q,k,l,m,d,e,f,g,h,i,j] 1 0 (ms [o,p,q,k,l,m,d,e,f,g,h] (v2 fun t u=>mz [a,r,c] (A3 a i1 fun v=>Y 135 [v,r,c,d,e,f,g,h,t,u,k,l,m]))) (ms [o,p,q,k,l,m,d,e,f,g,h] (v2 fun t u=>mz [r] (O 1 [d,e,f,g,h,t,u,k,l,m]))))))) (O 3 [d,e,f,g,h,i,j,k,l,m,c,b])
def g40b10a(a b c d e f g h i j k l m n o p q:PV):T:=L 45 f fun r=>L3 a r (X 45 f a (w4 fun s t u v=>C0 5 [h,i,j,l,s,t,u,v] (w1 fun w=>N3 w i0 (O0 [e,f,g,h,i,j,k,l,m,n,o,w,g,c]) (A3 a i1 fun x=>Y 136 [x,b,c,d,e,f,g,h,i,j,k,l,m,n,o,p,q])))) (O 1 [e,f,g,h,i,j,k,l,m,n,o,p,q,b,c,d])
def g41(a b c:PV):T:=J (D 138 [i0,a,b,c,i0,i0] 1 2 (ms [a,b,c] (v2 fun d e=>mz [nS] (D 140 [i0,a,b,c,d,e] 1 0 (ms [a,b,c] (w2 fun f g=>D 144 [i0,a,b,c,f,g] 1 0 (ms [a,b,c] (w2 fun h i=>D 145 [i0,a,b,c,h,i] 1 0 (ms [a,b,c] (w2 fun j k=>O0 [i0,i0])) (ms [a,b,c] (w2 fun j k=>O0 [j,k])))) (ms [a,b,c] (w2 fun h i=>O0 [h,i])))) (ms [a,b,c] (w2 fun f g=>O0 [f,g]))))) (ms [a,b,c] (w3 fun d e f=>D 141 [i0,f,a,b,c,d,e] 1 0 (ms [a,b,c] (v2 fun g h=>mz [f] (D 144 [i0,a,b,c,g,h] 1 0 (ms [a,b,c] (w2 fun i j=>D 145 [i0,a,b,c,i,j] 1 0 (ms [a,b,c] (w2 fun k l=>O0 [i0,i0])) (ms [a,b,c] (w2 fun k l=>O0 [k,l])))) (ms [a,b,c] (w2 fun i j=>O0 [i,j]))))) (ms [a,b,c] (v2 fun g h=>mz [f] (O0 [g,h])))))) (C0 138 [i0,a,b,c,i0,i0] (ms [a,b,c] (w2 fun d e=>O0 [d,e])))
def g41b0a(a b c d e f:PV):T:=L 24 c fun g=>L3 a g (X 24 c a (w6 fun h i j k l m=>Q0 19 [(.rows []),h] (O0 [b,c,d,(iv 120),m]) (A3 a i1 fun n=>Y 139 [n,(.rows [[h]]),b,c,d,e,f]))) (O 1 [b,c,d,e,f,nS])
def g41b0b(a b c d e f g:PV):T:=L 24 d fun h=>L3 a h (X 24 d a (w6 fun i j k l m n=>Q0 19 [b,i] (O0 [c,d,e,(iv 120),n]) (P 52 b (.rows [[i]]) fun o=>A3 a i1 fun p=>Y 139 [p,o,c,d,e,f,g]))) (O 2 [c,d,e,f,g,b])
def g41b2a(a b c d e f:PV):T:=L 24 c fun g=>L3 a g (X 24 c a (w6 fun h i j k l m=>D 142 [i0,a,h,i,j,k,l,m,e,f,b,c,d] 1 0 (ms [h,i,j,k,l,m] (v2 fun n o=>mz [b,c,d,a,nS] (A3 a i1 fun p=>Y 140 [p,b,c,d,n,o]))) (ms [h,i,j,k,l,m] (v2 fun n o=>mz [b,c,d] (O0 [b,c,d,n,o]))))) (O 1 [b,c,d,e,f])
def g41b2b(a b c d e f g:PV):T:=L 24 d fun h=>L3 a h (X 24 d a (w6 fun i j k l m n=>D 143 [i0,b,a,i,j,k,l,m,n,f,g,c,d,e] 1 0 (ms [i,j,k,l,m,n] (v2 fun o p=>mz [c,d,e,a,b] (A3 a i1 fun q=>Y 141 [q,b,c,d,e,o,p]))) (ms [i,j,k,l,m,n] (v2 fun o p=>mz [c,d,e,b] (O0 [c,d,e,o,p,b]))))) (O 1 [c,d,e,f,g,b])
def g41b4a(a b c d e f g h i j k l m:PV):T:=L 52 e fun n=>L3 a n (X 52 e a (w1 fun o=>Q0 19 [(.rows []),o] (S 52 e none (some (.pv a)) fun p=>Q0 19 [p,o] (O0 [c,d,e,f,g,h,(iv 120),h,k,l,m]) (A3 a i1 fun q=>Y 142 [q,b,c,d,e,f,g,h,i,j,k,l,m])) (O0 [c,d,e,f,g,h,(iv 121),h,k,l,m]))) (O 1 [c,d,e,f,g,h,i,j,k,l,m,b,nS])
def g41b4b(a b c d e f g h i j k l m n:PV):T:=L 52 f fun o=>L3 a o (X 52 f a (w1 fun p=>Q0 19 [b,p] (S 52 f none (some (.pv a)) fun q=>Q0 19 [q,p] (O0 [d,e,f,g,h,i,(iv 120),i,l,m,n,b]) (A3 a i1 fun r=>Y 143 [r,b,c,d,e,f,g,h,i,j,k,l,m,n])) (O0 [d,e,f,g,h,i,(iv 121),i,l,m,n,b]))) (O 1 [d,e,f,g,h,i,j,k,l,m,n,c,b])
def g41b6a(a b c d e f:PV):T:=L 24 c fun g=>L3 a g (X 24 c a (w6 fun h i j k l m=>C0 194 [b,c,d,h] (w1 fun n=>Q0 19 [n,h] (O0 [b,c,d,(iv 124),m]) (A3 a i1 fun o=>Y 144 [o,b,c,d,e,f])))) (O 1 [b,c,d,e,f])
def g41b8a(a b c d e f:PV):T:=L 24 c fun g=>L3 a g (X 24 c a (w6 fun h i j k l m=>J (D 147 [i0,a,h,i,j,k,l,m,e,f,b,c,d] 1 2 (ms [h,i,j,k,l,m] (v2 fun n o=>mz [b,c,d,a,nS] (C0 185 [l,h,i,j,k,l,m] (w2 fun p q=>N3 p i0 (O0 [b,c,d,p,q]) (A3 a i1 fun r=>Y 145 [r,b,c,d,n,o]))))) (ms [h,i,j,k,l,m] (v2 fun n o=>ms [b,c,d,a] (w1 fun p=>C0 185 [l,h,i,j,k,l,m] (w2 fun q r=>N3 q i0 (O0 [b,c,d,q,r]) (A3 a i1 fun s=>Y 146 [s,p,b,c,d,n,o])))))) (C0 147 [i0,a,h,i,j,k,l,m,e,f,b,c,d] (ms [h,i,j,k,l,m] (v2 fun n o=>mz [b,c,d] (O0 [b,c,d,n,o])))))) (O 1 [b,c,d,e,f])
def g41b8b(a b c d e f g:PV):T:=L 24 d fun h=>L3 a h (X 24 d a (w6 fun i j k l m n=>J (D 148 [i0,b,a,i,j,k,l,m,n,f,g,c,d,e] 2 3 (ms [i,j,k,l,m,n] (v2 fun o p=>mz [c,d,e,a,b] (C0 185 [m,i,j,k,l,m,n] (w2 fun q r=>N3 q i0 (O0 [c,d,e,q,r]) (A3 a i1 fun s=>Y 146 [s,b,c,d,e,o,p]))))) (ms [i,j,k,l,m,n] (v2 fun o p=>ms [c,d,e,a] (w1 fun q=>C0 185 [m,i,j,k,l,m,n] (w2 fun r s=>N3 r i0 (O0 [c,d,e,r,s]) (A3 a i1 fun t=>Y 146 [t,q,c,d,e,o,p])))))) (D 148 [i0,b,a,i,j,k,l,m,n,f,g,c,d,e] 0 1 (ms [i,j,k,l,m,n] (v2 fun o p=>mz [c,d,e,b] (O0 [c,d,e,o,p]))) (ms [i,j,k,l,m,n] (v2 fun o p=>mz [c,d,e] (O0 [c,d,e,o,p])))))) (O 1 [c,d,e,f,g])
def g41b10a(a b c d e f g h i j k l m:PV):T:=L 75 f fun n=>L3 a n (X 75 f a (w6 fun o p q r s t=>Q0 19 [(.rows []),o] (O0 [c,d,e,f,g,h,(iv 120),t,k,l,m]) (C0 5 [k,l,m,(.rows [[d]]),p,q,r,s] (w1 fun u=>E3 u i0 (D 160 [p,q,r,s] 0 1 (mz [nS] (O0 [c,d,e,f,g,h,(iv 123),t,k,l,m])) (w1 fun v=>L 52 v fun w=>E3 w i0 (O0 [c,d,e,f,g,h,(iv 123),t,k,l,m]) (N3 u i0 (O0 [c,d,e,f,g,h,u,t,k,l,m]) (A3 a i1 fun x=>Y 149 [x,(.rows [[o]]),b,c,d,e,f,g,h,i,j,k,l,m])))) (N3 u i0 (O0 [c,d,e,f,g,h,u,t,k,l,m]) (A3 a i1 fun v=>Y 149 [v,(.rows [[o]]),b,c,d,e,f,g,h,i,j,k,l,m])))))) (O 1 [c,d,e,f,g,h,i,j,k,l,m,b,nS])
def g41b10b(a b c d e f g h i j k l m n:PV):T:=L 75 g fun o=>L3 a o (X 75 g a (w6 fun p q r s t u=>Q0 19 [b,p] (O0 [d,e,f,g,h,i,(iv 120),u,l,m,n,b]) (P 52 b (.rows [[p]]) fun v=>C0 5 [l,m,n,(.rows [[e]]),q,r,s,t] (w1 fun w=>E3 w i0 (D 160 [q,r,s,t] 0 1 (mz [nS] (O 1 [d,e,f,g,h,i,(iv 123),u,l,m,n])) (w1 fun x=>L 52 x fun y=>E3 y i0 (O 1 [d,e,f,g,h,i,(iv 123),u,l,m,n]) (N3 w i0 (O 1 [d,e,f,g,h,i,w,u,l,m,n]) (A3 a i1 fun a0=>Y 150 [a0,v,c,d,e,f,g,h,i,j,k,l,m,n])))) (N3 w i0 (O 1 [d,e,f,g,h,i,w,u,l,m,n]) (A3 a i1 fun x=>Y 150 [x,v,c,d,e,f,g,h,i,j,k,l,m,n])))))) (O 2 [d,e,f,g,h,i,j,k,l,m,n,c,b])
def g41b10c(a b c d e f g h i j k l m n:PV):T:=L 75 g fun o=>L3 a o (X 75 g a (w6 fun p q r s t u=>Q0 19 [b,p] (O0 [d,e,f,g,h,i,(iv 120),u,l,m,n]) (P 52 b (.rows [[p]]) fun v=>C0 5 [l,m,n,(.rows [[e]]),q,r,s,t] (w1 fun w=>E3 w i0 (D 160 [q,r,s,t] 0 1 (mz [nS] (O0 [d,e,f,g,h,i,(iv 123),u,l,m,n])) (w1 fun x=>L 52 x fun y=>E3 y i0 (O0 [d,e,f,g,h,i,(iv 123),u,l,m,n]) (N3 w i0 (O0 [d,e,f,g,h,i,w,u,l,m,n]) (A3 a i1 fun a0=>Y 149 [a0,v,c,d,e,f,g,h,i,j,k,l,m,n])))) (N3 w i0 (O0 [d,e,f,g,h,i,w,u,l,m,n]) (A3 a i1 fun x=>Y 149 [x,v,c,d,e,f,g,h,i,j,k,l,m,n])))))) (O 2 [d,e,f,g,h,i,j,k,l,m,n,c,b])
def g41b10d(a b c d e f g h i j k l m n:PV):T:=L 75 g fun o=>L3 a o (X 75 g a (w6 fun p q r s t u=>Q0 19 [b,p] (O 1 [d,e,f,g,h,i,(iv 120),u,l,m,n]) (P 52 b (.rows [[p]]) fun v=>C0 5 [l,m,n,(.rows [[e]]),q,r,s,t] (w1 fun w=>E3 w i0 (D 160 [q,r,s,t] 0 1 (mz [nS] (O 1 [d,e,f,g,h,i,(iv 123),u,l,m,n])) (w1 fun x=>L 52 x fun y=>E3 y i0 (O 1 [d,e,f,g,h,i,(iv 123),u,l,m,n]) (N3 w i0 (O 1 [d,e,f,g,h,i,w,u,l,m,n]) (A3 a i1 fun a0=>Y 150 [a0,v,c,d,e,f,g,h,i,j,k,l,m,n])))) (N3 w i0 (O 1 [d,e,f,g,h,i,w,u,l,m,n]) (A3 a i1 fun x=>Y 150 [x,v,c,d,e,f,g,h,i,j,k,l,m,n])))))) (O 3 [d,e,f,g,h,i,j,k,l,m,n,c,b])
def g42(a b c d:PV):T:=X 25 c d (w8 fun e f g h i j k l=>C0 8 [a,b,c,e] (w1 fun m=>L3 m i0 (O0 [(iv 121),l]) (C0 187 [a,b,c,e,f,g,h,i,j,k,l] (w1 fun n=>N3 n i0 (O0 [n,l]) (C0 15 [a,b,c,e,g] (w1 fun o=>L3 o d (O0 [(iv 125),l]) (C0 177 [a,b,c,e,f,g,h,i,j,k,l] (w1 fun p=>N3 p i0 (O0 [p,l]) (X 24 b m (w6 fun q r s t u v=>C0 185 [k,q,r,s,t,u,v] (w2 fun w x=>N3 w i0 (O0 [w,x]) (D 171 [k] 0 1 (mz [nS] (D 171 [u] 0 1 (mz [nS] (D 174 [q,r,s,t,u,v] 0 1 (mz [nS] (D 152 [i0,e,f,g,h,i,j,k,l,i0,i0] 1 0 (ms [e,f,g,h,i,j,k,l] (w2 fun y a0=>O0 [i0,i0])) (ms [e,f,g,h,i,j,k,l] (w2 fun y a0=>O0 [y,a0])))) (w1 fun y=>D 153 [i0,y,e,f,g,h,i,j,k,l,i0,i0] 1 0 (ms [e,f,g,h,i,j,k,l] (v2 fun a0 b0=>mz [y] (O0 [i0,i0]))) (ms [e,f,g,h,i,j,k,l] (v2 fun a0 b0=>mz [y] (O0 [a0,b0])))))) (w1 fun y=>J (P 52 nS y fun a0=>D 174 [q,r,s,t,u,v] 0 1 (mz [nS] (D 154 [i0,a0,e,f,g,h,i,j,k,l,i0,i0] 1 0 (ms [e,f,g,h,i,j,k,l] (v2 fun b0 c0=>mz [a0] (O0 [i0,i0]))) (ms [e,f,g,h,i,j,k,l] (v2 fun b0 c0=>mz [a0] (O0 [b0,c0]))))) (w1 fun b0=>D 155 [i0,b0,a0,e,f,g,h,i,j,k,l,i0,i0] 1 0 (ms [e,f,g,h,i,j,k,l] (v2 fun c0 d0=>mz [b0,a0] (O0 [i0,i0]))) (ms [e,f,g,h,i,j,k,l] (v2 fun c0 d0=>mz [b0,a0] (O0 [c0,d0]))))) (P0 52 nS y (D 174 [q,r,s,t,u,v] 0 1 (mz [nS] (D 152 [i0,e,f,g,h,i,j,k,l,i0,i0] 1 0 (ms [e,f,g,h,i,j,k,l] (w2 fun a0 b0=>O0 [i0,i0])) (ms [e,f,g,h,i,j,k,l] (w2 fun a0 b0=>O0 [a0,b0])))) (w1 fun a0=>D 153 [i0,a0,e,f,g,h,i,j,k,l,i0,i0] 1 0 (ms [e,f,g,h,i,j,k,l] (v2 fun b0 c0=>mz [a0] (O0 [i0,i0]))) (ms [e,f,g,h,i,j,k,l] (v2 fun b0 c0=>mz [a0] (O0 [b0,c0]))))))))) (w1 fun y=>D 171 [u] 0 1 (mz [nS] (J (P 52 y nS fun a0=>D 174 [q,r,s,t,u,v] 0 1 (mz [nS] (D 154 [i0,a0,e,f,g,h,i,j,k,l,i0,i0] 1 0 (ms [e,f,g,h,i,j,k,l] (v2 fun b0 c0=>mz [a0] (O0 [i0,i0]))) (ms [e,f,g,h,i,j,k,l] (v2 fun b0 c0=>mz [a0] (O0 [b0,c0]))))) (w1 fun b0=>D 155 [i0,b0,a0,e,f,g,h,i,j,k,l,i0,i0] 1 0 (ms [e,f,g,h,i,j,k,l] (v2 fun c0 d0=>mz [b0,a0] (O0 [i0,i0]))) (ms [e,f,g,h,i,j,k,l] (v2 fun c0 d0=>mz [b0,a0] (O0 [c0,d0]))))) (P0 52 y nS (D 174 [q,r,s,t,u,v] 0 1 (mz [nS] (D 154 [i0,y,e,f,g,h,i,j,k,l,i0,i0] 1 0 (ms [e,f,g,h,i,j,k,l] (v2 fun a0 b0=>mz [y] (O0 [i0,i0]))) (ms [e,f,g,h,i,j,k,l] (v2 fun a0 b0=>mz [y] (O0 [a0,b0]))))) (w1 fun a0=>D 155 [i0,a0,y,e,f,g,h,i,j,k,l,i0,i0] 1 0 (ms [e,f,g,h,i,j,k,l] (v2 fun b0 c0=>mz [a0,y] (O0 [i0,i0]))) (ms [e,f,g,h,i,j,k,l] (v2 fun b0 c0=>mz [a0,y] (O0 [b0,c0])))))))) (w1 fun a0=>J (P 52 y a0 fun b0=>D 174 [q,r,s,t,u,v] 0 1 (mz [nS] (D 154 [i0,b0,e,f,g,h,i,j,k,l,i0,i0] 1 0 (ms [e,f,g,h,i,j,k,l] (v2 fun c0 d0=>mz [b0] (O0 [i0,i0]))) (ms [e,f,g,h,i,j,k,l] (v2 fun c0 d0=>mz [b0] (O0 [c0,d0]))))) (w1 fun c0=>D 155 [i0,c0,b0,e,f,g,h,i,j,k,l,i0,i0] 1 0 (ms [e,f,g,h,i,j,k,l] (v2 fun d0 f0=>mz [c0,b0] (O0 [i0,i0]))) (ms [e,f,g,h,i,j,k,l] (v2 fun d0 f0=>mz [c0,b0] (O0 [d0,f0]))))) (P0 52 y a0 (D 174 [q,r,s,t,u,v] 0 1 (mz [nS] (D 154 [i0,y,e,f,g,h,i,j,k,l,i0,i0] 1 0 (ms [e,f,g,h,i,j,k,l] (v2 fun b0 c0=>mz [y] (O0 [i0,i0]))) (ms [e,f,g,h,i,j,k,l] (v2 fun b0 c0=>mz [y] (O0 [b0,c0]))))) (w1 fun b0=>D 155 [i0,b0,y,e,f,g,h,i,j,k,l,i0,i0] 1 0 (ms [e,f,g,h,i,j,k,l] (v2 fun c0 d0=>mz [b0,y] (O0 [i0,i0]))) (ms [e,f,g,h,i,j,k,l] (v2 fun c0 d0=>mz [b0,y] (O0 [c0,d0]))))))))))))))))))))
def g42b0a(a b c d e f g h i j k:PV):T:=L3 a i0 (X 52 nS a (w1 fun l=>Q0 19 [(.rows []),l] (A3 a i1 fun m=>Y 152 [m,b,c,d,e,f,g,h,i,j,k]) (O0 [b,c,d,e,f,g,h,i,(iv 128),i]))) (O 1 [b,c,d,e,f,g,h,i,j,k])
def g42b0b(a b c d e f g h i j k l:PV):T:=L 52 b fun m=>L3 a m (X 52 b a (w1 fun n=>Q0 19 [(.rows []),n] (A3 a i1 fun o=>Y 153 [o,b,c,d,e,f,g,h,i,j,k,l]) (O0 [c,d,e,f,g,h,i,j,(iv 128),j,b]))) (O 1 [c,d,e,f,g,h,i,j,k,l,b])
def g42b0c(a b c d e f g h i j k l:PV):T:=L3 a i0 (X 52 nS a (w1 fun m=>Q0 19 [b,m] (A3 a i1 fun n=>Y 154 [n,b,c,d,e,f,g,h,i,j,k,l]) (O0 [c,d,e,f,g,h,i,j,(iv 128),j,b]))) (O 1 [c,d,e,f,g,h,i,j,k,l,b])
def g42b0d(a b c d e f g h i j k l m:PV):T:=L 52 b fun n=>L3 a n (X 52 b a (w1 fun o=>Q0 19 [c,o] (A3 a i1 fun p=>Y 155 [p,b,c,d,e,f,g,h,i,j,k,l,m]) (O0 [d,e,f,g,h,i,j,k,(iv 128),k,b,c]))) (O 1 [d,e,f,g,h,i,j,k,l,m,b,c])
def g43(a b c d e f g h i j k:PV):T:=C0 8 [a,b,c,d] (w1 fun l=>X 24 b l (w6 fun m n o p q r=>J (C 157 [i0,o,a,b,c,d,e,f,g,h,i,j,k] 1 (mz [a,b,c,d,e,f,g,h,i,j,k] (O0 [bt]))) (D 157 [i0,o,a,b,c,d,e,f,g,h,i,j,k] 0 0 (mz [a,b,c,d,e,f,g,h,i,j,k,bt] (O0 [bt])) (mz [a,b,c,d,e,f,g,h,i,j,k,bf] (O0 [bf])))))
def g43b0a(a b c d e f g h i j k l m:PV):T:=L 52 b fun n=>L3 a n (X 52 b a (w1 fun o=>C0 15 [c,d,e,o,h] (w1 fun p=>L3 p i0 (O0 [c,d,e,f,g,h,i,j,k,l,m,bf]) (X 25 e p (w8 fun q r s t u v w x=>J (C 158 [i0,a,b,q,r,s,t,u,v,w,x,c,d,e,f,g,h,i,j,k,l,m] 1 (mz [q,r,s,t,u,v,w,x,c,d,e,f,g,h,i,j,k,l,m,a,b] (A3 a i1 fun y=>Y 157 [y,b,c,d,e,f,g,h,i,j,k,l,m]))) (D 158 [i0,a,b,q,r,s,t,u,v,w,x,c,d,e,f,g,h,i,j,k,l,m] 0 0 (mz [q,r,s,t,u,v,w,x,c,d,e,f,g,h,i,j,k,l,m,bt] (O0 [c,d,e,f,g,h,i,j,k,l,m,bt])) (mz [q,r,s,t,u,v,w,x,c,d,e,f,g,h,i,j,k,l,m,bf] (O0 [c,d,e,f,g,h,i,j,k,l,m,bf])))))))) (O 1 [c,d,e,f,g,h,i,j,k,l,m])
def g43b2a(a b c d e f g h i j k l m n o p q r s t u v:PV):T:=L 79 i fun w=>L3 a w (J (C 159 [i0,a,b,c,d,e,f,g,h,i,j,k,l,m,n,o,p,q,r,s,t,u,v] 1 (mz [d,e,f,g,h,i,j,k,l,m,n,o,p,q,r,s,t,u,v,a,b,c] (A3 a i1 fun x=>Y 158 [x,b,c,d,e,f,g,h,i,j,k,l,m,n,o,p,q,r,s,t,u,v]))) (D 159 [i0,a,b,c,d,e,f,g,h,i,j,k,l,m,n,o,p,q,r,s,t,u,v] 0 0 (mz [d,e,f,g,h,i,j,k,l,m,n,o,p,q,r,s,t,u,v,bt] (O0 [d,e,f,g,h,i,j,k,l,m,n,o,p,q,r,s,t,u,v,bt])) (mz [d,e,f,g,h,i,j,k,l,m,n,o,p,q,r,s,t,u,v,bf] (O0 [d,e,f,g,h,i,j,k,l,m,n,o,p,q,r,s,t,u,v,bf])))) (O 1 [d,e,f,g,h,i,j,k,l,m,n,o,p,q,r,s,t,u,v,b,c])
def g43b4a(a b c d e f g h i j k l m n o p q r s t u v w:PV):T:=L 45 i fun x=>L3 a x (X 45 i a (w4 fun y a0 b0 c0=>X 79 j b (w5 fun d0 f0 g0 h0 j0=>E9 a0 g0 (X 45 t a (w4 fun k0 l0 m0 n0=>Q0 180 [m,n,o,p,q,r,s,t,u,v,w,d0,l0] (A3 a i1 fun o0=>Y 159 [o0,b,c,d,e,f,g,h,i,j,k,l,m,n,o,p,q,r,s,t,u,v,w]) (O0 [e,f,g,h,i,j,k,l,m,n,o,p,q,r,s,t,u,v,w,bf]))) (A3 a i1 fun k0=>Y 159 [k0,b,c,d,e,f,g,h,i,j,k,l,m,n,o,p,q,r,s,t,u,v,w])))) (O 1 [e,f,g,h,i,j,k,l,m,n,o,p,q,r,s,t,u,v,w,b,c,d])
def g82(a b c d:PV):T:=J (C0 195 [a,b,c,d] (mz [nS] (D 161 [i0] 0 1 (mz [nS] (O0 [nS])) (w1 fun e=>O 1 [e])))) (C0 165 [a,b,c,d] (w1 fun e=>D 162 [i0,e] 0 1 (mz [nS,e] (O0 [nS])) (v1 fun f=>mz [e] (O 1 [f]))))
def g82b0a(a:PV):T:=L3 a i0 (X 45 nS a (w4 fun b c d e=>E3 b i1 (Q0 19 [(.rows []),c] (A3 a i1 fun f=>Y 161 [f]) (A3 a i1 fun f=>Y 163 [f,(.rows [[c]])])) (A3 a i1 fun f=>Y 161 [f]))) (O0 [nS])
def g82b0b(a b:PV):T:=L 45 b fun c=>L3 a c (X 45 b a (w4 fun d e f g=>E3 d i1 (Q0 19 [(.rows []),e] (A3 a i1 fun h=>Y 162 [h,b]) (A3 a i1 fun h=>Y 164 [h,b,(.rows [[e]])])) (A3 a i1 fun h=>Y 162 [h,b]))) (O0 [nS,b])
def g82b0c(a b:PV):T:=L3 a i0 (X 45 nS a (w4 fun c d e f=>E3 c i1 (Q0 19 [b,d] (A3 a i1 fun g=>Y 163 [g,b]) (P 52 b (.rows [[d]]) fun g=>A3 a i1 fun h=>Y 163 [h,g])) (A3 a i1 fun g=>Y 163 [g,b]))) (O 1 [b])
def g82b0d(a b c:PV):T:=L 45 b fun d=>L3 a d (X 45 b a (w4 fun e f g h=>E3 e i1 (Q0 19 [c,f] (A3 a i1 fun i=>Y 164 [i,b,c]) (P 52 c (.rows [[f]]) fun i=>A3 a i1 fun j=>Y 164 [j,b,i])) (A3 a i1 fun i=>Y 164 [i,b,c]))) (O 1 [c,b])
def g120(a b c d:PV):T:=D 166 [i0,(.rows [[a,b,c,d]]),a,b,c,d] 0 1 (mz [a,b,c,d,(.rows [[a,b,c,d]])] (O0 [(.rows [[a,b,c,d]])])) (ms [a,b,c,d] (w1 fun e=>O0 [e]))
def g120b0a(a b c d e f:PV):T:=L 45 f fun g=>L3 a g (X 45 f a (w4 fun h i j k=>J (C0 195 [h,i,j,k] (mz [nS] (J (P 45 b nS fun l=>A3 a i1 fun m=>Y 167 [m,l,c,d,e,f]) (P0 45 b nS (A3 a i1 fun l=>Y 166 [l,b,c,d,e,f]))))) (C0 165 [h,i,j,k] (w1 fun l=>J (P 45 b l fun m=>A3 a i1 fun n=>Y 167 [n,m,c,d,e,f]) (P0 45 b l (A3 a i1 fun m=>Y 166 [m,b,c,d,e,f])))))) (O0 [c,d,e,f,b])
def g120b0b(a b c d e f:PV):T:=L 45 f fun g=>L3 a g (X 45 f a (w4 fun h i j k=>J (C0 195 [h,i,j,k] (mz [nS] (J (P 45 b nS fun l=>A3 a i1 fun m=>Y 167 [m,l,c,d,e,f]) (P0 45 b nS (A3 a i1 fun l=>Y 167 [l,b,c,d,e,f]))))) (C0 165 [h,i,j,k] (w1 fun l=>J (P 45 b l fun m=>A3 a i1 fun n=>Y 167 [n,m,c,d,e,f]) (P0 45 b l (A3 a i1 fun m=>Y 167 [m,b,c,d,e,f])))))) (O 1 [c,d,e,f,b])
def g121(a b c d e f g h:PV):T:=D 169 [i0,a,b,c,d,e,f,g,h] 0 1 (mz [a,b,c,d,e,f,g,h,nS] (O0 [nS])) (ms [a,b,c,d,e,f,g,h] (w1 fun i=>O 1 [i]))
def g121b0a(a b c d e f g h i:PV):T:=L 45 f fun j=>L3 a j (X 45 f a (w4 fun k l m n=>A3 a i1 fun o=>Y 170 [o,(.rows [[l]]),b,c,d,e,f,g,h,i])) (O0 [b,c,d,e,f,g,h,i,nS])
def g121b0b(a b c d e f g h i j:PV):T:=L 45 g fun k=>L3 a k (X 45 g a (w4 fun l m n o=>P 52 b (.rows [[m]]) fun p=>A3 a i1 fun q=>Y 170 [q,p,c,d,e,f,g,h,i,j])) (O 1 [c,d,e,f,g,h,i,j,b])
def g45(a:PV):T:=D 172 [i0,a] 0 1 (mz [nS] (O0 [nS])) (w1 fun b=>O 1 [b])
def g45b0a(a b:PV):T:=L 26 b fun c=>L3 a c (X 26 b a (w13 fun d e f g h i j k l m n o p=>A3 a i1 fun q=>Y 173 [q,b,(.rows [[d]])])) (O0 [nS])
def g45b0b(a b c:PV):T:=L 26 b fun d=>L3 a d (X 26 b a (w13 fun e f g h i j k l m n o p q=>P 52 c (.rows [[e]]) fun r=>A3 a i1 fun s=>Y 173 [s,b,r])) (O 1 [c])
def g86(a b c d e f:PV):T:=D 175 [i0,a,b,c,d,e,f] 0 1 (mz [a,b,c,d,e,f,nS] (O0 [nS])) (ms [a,b,c,d,e,f] (w1 fun g=>O 1 [g]))
def g86b0a(a b c d e f g:PV):T:=L 75 e fun h=>L3 a h (X 75 e a (w6 fun i j k l m n=>A3 a i1 fun o=>Y 176 [o,(.rows [[i]]),b,c,d,e,f,g])) (O0 [b,c,d,e,f,g,nS])
def g86b0b(a b c d e f g h:PV):T:=L 75 f fun i=>L3 a i (X 75 f a (w6 fun j k l m n o=>P 52 b (.rows [[j]]) fun p=>A3 a i1 fun q=>Y 176 [q,p,c,d,e,f,g,h])) (O 1 [c,d,e,f,g,h,b])
def g85(a b c d e f g h i j k:PV):T:=D 178 [i0,d,e,f,g,h,i,j,k,a,b,c] 1 0 (mz [d,e,f,g,h,i,j,k,a,b,c] (O0 [i0])) (ms [d,e,f,g,h,i,j,k,a,b,c] (w1 fun l=>O0 [l]))
def g85b0a(a b c d e f g h i j k l:PV):T:=L 79 g fun m=>L3 a m (X 79 g a (w5 fun n o p q r=>C0 8 [j,k,l,n] (w1 fun s=>L3 s i0 (O0 [b,c,d,e,f,g,h,i,j,k,l,(iv 121)]) (N3 o i1 (O0 [b,c,d,e,f,g,h,i,j,k,l,(iv 123)]) (D 168 [b,c,d,e,f,g,h,i] 0 1 (mz [nS] (Q0 19 [(.rows []),p] (D 179 [i0,a,b,c,d,e,f,g,h,i,n,o,p,q,r,j,k,l] 1 0 (mz [b,c,d,e,f,g,h,i,n,o,p,q,r,j,k,l,a] (A3 a i1 fun t=>Y 178 [t,b,c,d,e,f,g,h,i,j,k,l])) (ms [b,c,d,e,f,g,h,i,n,o,p,q,r,j,k,l] (w1 fun t=>O0 [b,c,d,e,f,g,h,i,j,k,l,t]))) (O0 [b,c,d,e,f,g,h,i,j,k,l,(iv 123)]))) (w1 fun t=>Q0 19 [t,p] (D 179 [i0,a,b,c,d,e,f,g,h,i,n,o,p,q,r,j,k,l] 1 0 (mz [b,c,d,e,f,g,h,i,n,o,p,q,r,j,k,l,a] (A3 a i1 fun u=>Y 178 [u,b,c,d,e,f,g,h,i,j,k,l])) (ms [b,c,d,e,f,g,h,i,n,o,p,q,r,j,k,l] (w1 fun u=>O0 [b,c,d,e,f,g,h,i,j,k,l,u]))) (O0 [b,c,d,e,f,g,h,i,j,k,l,(iv 123)]))))))) (O 1 [b,c,d,e,f,g,h,i,j,k,l])
def g85b2a(a b c d e f g h i j k l m n o p q r:PV):T:=L3 a b (X 79 h a (w5 fun s t u v w=>E9 s k (E9 u m (O0 [c,d,e,f,g,h,i,j,k,l,m,n,o,p,q,r,(iv 120)]) (A3 a i1 fun x=>Y 179 [x,b,c,d,e,f,g,h,i,j,k,l,m,n,o,p,q,r])) (A3 a i1 fun x=>Y 179 [x,b,c,d,e,f,g,h,i,j,k,l,m,n,o,p,q,r]))) (O 1 [c,d,e,f,g,h,i,j,k,l,m,n,o,p,q,r,b])
def g87(a b c d e f g h i j k l m:PV):T:=J (C 181 [i0,m,l,d,e,f,g,h,i,j,k,a,b,c] 1 (mz [d,e,f,g,h,i,j,k,a,b,c] (O0 [bf]))) (D 181 [i0,m,l,d,e,f,g,h,i,j,k,a,b,c] 0 0 (mz [d,e,f,g,h,i,j,k,a,b,c,bt] (O0 [bt])) (mz [d,e,f,g,h,i,j,k,a,b,c,bf] (O0 [bf])))
def g87b0a(a b c d e f g h i j k l m n:PV):T:=L 79 i fun o=>L3 a o (X 79 i a (w5 fun p q r s t=>E9 r b (E9 p c (O0 [d,e,f,g,h,i,j,k,l,m,n,bt]) (C0 194 [l,m,n,p] (w1 fun u=>Q0 19 [u,c] (O0 [d,e,f,g,h,i,j,k,l,m,n,bt]) (A3 a i1 fun v=>Y 181 [v,b,c,d,e,f,g,h,i,j,k,l,m,n])))) (A3 a i1 fun u=>Y 181 [u,b,c,d,e,f,g,h,i,j,k,l,m,n]))) (O 1 [d,e,f,g,h,i,j,k,l,m,n])
def g119(a b:PV):T:=O0 [a,b]
def g81g0(a b:PV):T:=O0 []
def g81g1(a b:PV):T:=C0 182 [a,b] (w2 fun c d=>O0 [c,d])
def g83(a b c d e f g:PV):T:=D 186 [i0,a,b,c,d,e,f,g,i0,i0] 1 0 (ms [b,c,d,e,f,g] (w2 fun h i=>O0 [i0,i0])) (ms [b,c,d,e,f,g] (w2 fun h i=>O0 [h,i]))
def g83b0a(a b c d e f g h i j:PV):T:=L 26 b fun k=>L3 a k (X 26 b a (w13 fun l m n o p q r s t u v w x=>C0 196 [c,d,e,f,g,h] (w1 fun y=>Q0 19 [y,l] (S 26 b none (some (.pv a)) fun a0=>C0 197 [a0] (w1 fun b0=>Q0 19 [b0,l] (O0 [c,d,e,f,g,h,(iv 120),x]) (N3 m i6 (O0 [c,d,e,f,g,h,(iv 130),x]) (A3 a i1 fun c0=>Y 186 [c0,b,c,d,e,f,g,h,i,j])))) (O0 [c,d,e,f,g,h,(iv 121),x])))) (O 1 [c,d,e,f,g,h,i,j])
def g84(a b c d e f g h i j k:PV):T:=N3 e i3 (O0 [(iv 127)]) (E9 f z0 (O0 [(iv 127)]) (C0 1 [a,b,c,f] (w1 fun l=>L3 l i0 (O0 [(iv 127)]) (L 45 h fun m=>N3 l m (O0 [(iv 122)]) (C0 198 [d,e,f,g,h,i,j,k] (w1 fun n=>D 188 [i0,n,d,e,f,g,h,i,j,k] 1 0 (mz [d,e,f,g,h,i,j,k] (O0 [i0])) (ms [d,e,f,g,h,i,j,k] (w1 fun o=>O0 [o]))))))))
def g84b0a(a b c d e f g h i j:PV):T:=L 52 b fun k=>L3 a k (X 45 g a (w4 fun l m n o=>N3 l i1 (O0 [c,d,e,f,g,h,i,j,(iv 127)]) (L 45 o fun p=>G3 p i0 (O0 [c,d,e,f,g,h,i,j,(iv 127)]) (S 52 b none (some (.pv a)) fun q=>X 52 b a (w1 fun r=>Q0 19 [q,r] (O0 [c,d,e,f,g,h,i,j,(iv 127)]) (A3 a i1 fun s=>Y 188 [s,b,c,d,e,f,g,h,i,j])))))) (O 1 [c,d,e,f,g,h,i,j])
def g107(a b c d:PV):T:=E3 a i1 (O0 [bt]) (Q0 190 [d] (O0 [bt]) (O0 [bf]))
def g139a(a:PV):T:=C0 191 [a] (w1 fun b=>H3 b i0 (O0 [bt]) (O0 [bf]))
def g143k(a:PV):T:=L 45 a fun b=>D 192 [i0,b,a] 1 0 (z (O0 [(iv (-1))])) (w1 fun c=>O0 [c])
def g143kb0a(a b c:PV):T:=L3 a b (X 45 c a (w4 fun d e f g=>Q0 189 [d,e,f,g] (O0 [a]) (A3 a i1 fun h=>Y 192 [h,b,c]))) (O 1 [])
end
def y0:List AObj:=[.box 97 (wR 0 3++[(.mp 1)]),.mp [] [o3]]
def y1:List AObj:=[.box 9 [o0],.box 9 [o1],.box 91 [(rA 3)],.box 97 (wR 2 3++[(.mp 4)]),.mp [] [o5]]
def y2:List AV:=[(.tup []),(.ifc 35 (.agg [(.pv (.sym 4)),(.pv (.sym 5))]))]
def y3:List AObj:=[.box 97 (wR 0 3++[(.mp 1)]),.mp [] [o3],b35_2 4]
def y4:List Shape:=[yU o0 1,yW (.tsym 0 0) [tk 9 1 0] 1 [0]]
def y5:List AObj:=[.mp [] [o0],.box 97 (wR 1 3++[(.mp 2)]),.mp [] [o4]]
def y6:List AObj:=[.box 97 (wR 0 3++[(.mp 1)]),.mp [] [o3],b81_8 4]
def y7:List Shape:=[yV (.tup []) y0 4,yV (.tup y2) y0 6]
def y8:List AV:=[(.agg (wR 0 3)),o3]
def y9:Env:=[(84,(.ifc 35 (.agg [(.pv (.sym 6)),(.pv (.sym 7))]))),(4,(rA 2))]
def y10:List AV:=[(.fn 63 [(.ptr 2 0),(.ptr 0 0),(.ptr 1 0)])]
def y11:List AV:=[(.fn 63 [(.ptr 3 0),(.ptr 0 0),(.ptr 2 0)])]
def y12:Env:=[(161,(.ifc 35 (.agg [(.pv (.sym 4)),(.pv (.sym 5))])))]
def y13:List Shape:=[yV o13 [b89_13 0] 14]
def y14:List AObj:=[.box 9 [o1],.box 9 [o2],.box 91 [(rA 3)],.box 97 (wR 3 3++[(.mp 4)]),.mp [] [o6]]
def y15:List AV:=[(.fn 63 [(.ptr 0 0),(.ptr 1 0),(.ptr 2 0)])]
def y16:List AV:=[(.fn 63 [(.ptr 0 0),(.ptr 1 0),(.ptr 3 0)])]
def y17:List Shape:=[yE .ret [(4,o0)] [] 1,yE (.exit 0) [] [] 0]
def y18:List AObj:=[.box 97 (wR 4 3++[(.mp 1)]),.mp [] [o7]]
def y19:List Shape:=[yV o5 [b132_5 0] 6]
def en17:Ent:=eF 26 y8 [] 4 17
def en18:Ent:=eF 27 y8 [] 4 18
def en49:Ent:=eF 39 [(rA 0),o0] [.box 97 (wR 1 3++[(.mp 1)]),.mp [] [o4]] 5 45
def en121:Ent:=eF 9 [(.agg (wR 0 4))] [] 4 110
def en165:Ent:=eF 120 [(.agg (wR 0 4))] [] 4 144
def en168:Ent:=eF 121 [(.agg (wR 0 8))] [] 8 146
def en171:Ent:=eF 45 [o0] [] 1 148
def en174:Ent:=eF 86 [(.agg (wR 0 6))] [] 6 150
def en193:Ent:=wkE en17 168 17
def en194:Ent:=wkE en18 169 18
def en195:Ent:=wkE en165 170 165
def en196:Ent:=wkE en174 171 174
def en197:Ent:=wkE en171 172 171
def en198:Ent:=wkE en168 173 168
def enL:List Ent:=[
 eF 13 y8 [] 4 0,
 eF 14 y8 [] 4 1,
 eL 0 1 14 [(5,o0),(2,(rA 0)),(1,o1)] [b32_3 2] 5 2,
 eF 15 [(.agg (wR 0 3)),o3,(.agg (wR 4 4))] [] 8 3,
 eL 1 1 15 [(40,o0),(39,o1),(38,o2),(3,(rA 0)),(1,o3)] [b32_3 4] 7 4,
 eF 16 [(.agg (wR 0 3)),o3,(.agg (wR 4 4))] [] 8 5,
 eL 0 2 16 [(8,o0),(5,(rA 0)),(3,(rA 1)),(1,o1)] [b47_4 2,b32_3 6] 9 6,
 eF 19 y8 [] 4 7,
 eF 20 y8 [] 4 8,
 eL 0 1 20 [(5,o0),(2,(rA 0)),(1,o1)] [b32_3 2] 5 9,
 eF 21 y8 [] 4 10,
 eL 0 1 21 [(14,o0),(13,o1),(12,o2),(3,(rA 0))] [.box 9 [o3]] 4 11,
 eF 22 y8 [] 4 12,
 eL 0 1 22 [(6,o0),(2,(rA 0)),(1,o1)] [b32_3 2] 5 13,
 eL 2 1 22 [(7,o0),(2,(rA 0)),(6,o1),(1,o2)] [b32_3 3] 6 14,
 eF 24 [(.agg (wR 0 3)),o3,o4] [] 5 15,
 eL 0 1 24 [(7,o0),(3,(rA 0)),(1,o1),(2,o2)] [b32_3 3] 6 16,
 en17,
 en18,
 eF 44 [o0,o1] [] 2 19,
 eL 0 0 44 [(5,o0),(0,o1),(1,o2)] [] 3 20,
 eF 51 [o0] [] 1 21,
 eF 54 [o0,o1] [] 2 22,
 eF 93 [o0,o1] [] 2 23,
 eL 0 0 93 [(8,o0),(7,o1),(1,o2),(0,o3)] [] 4 24,
 eF 52 [o0,(.fn 53 [(.ptr 0 0)])] [.box 9 [o1]] 2 25,
 eF 57 [o0,(.fn 58 [(.ptr 0 0)])] [.box 9 [o1]] 2 26,
 eF 59 [o0,(.fn 60 [(.ptr 0 0)])] [.box 9 [o1]] 2 27,
 eF 63 [o0,(rA 0),(rA 1),(rA 2)] [b32_3 1,.box 52 [nA],.box 123 y15] 4 28,
 eL 0 3 63 [(24,o0),(23,o1),(22,o2),(2,(rA 0)),(3,(rA 1))] [.box 52 [nA],.box 123 y10,b32_3 3] 6 29,
 rn [3] (eL 0 3 63 [(24,o0),(23,o1),(22,o2),(2,(rA 0)),(3,(rA 1))] [.box 52 [(.tsym 3 3)],.box 123 y10,b32_3 4,tk 9 1 3] 7 29),
 eF 64 [(.agg (wR 0 3)),o3,nA] [] 4 30,
 eL 0 1 64 [(9,o0),(8,o1),(2,nA),(3,(rA 0))] [b32_3 2] 5 31,
 rn [2] (eL 0 1 64 [(9,o0),(8,o1),(2,(.tsym 1 2)),(3,(rA 0))] [b32_3 3,tk 9 1 2] 6 31),
 eF 92 [o0,(.fn 53 [(.ptr 0 0)])] [.box 9 [o1]] 2 32,
 eL 0 1 92 [(8,o0),(7,o1),(1,(.fn 53 [(.ptr 0 0)])),(0,o2)] [.box 9 [o3]] 4 33,
 eF 95 [o0,(.fn 58 [(.ptr 0 0)])] [.box 9 [o1]] 2 34,
 eL 0 1 95 [(8,o0),(7,o1),(1,(.fn 58 [(.ptr 0 0)])),(0,o2)] [.box 9 [o3]] 4 35,
 eF 96 [o0,(.fn 60 [(.ptr 0 0)])] [.box 9 [o1]] 2 36,
 eL 0 1 96 [(8,o0),(7,o1),(1,(.fn 60 [(.ptr 0 0)])),(0,o2)] [.box 9 [o3]] 4 37,
 rn [4] (eF 63 [o0,(rA 0),(rA 1),(rA 3)] [b32_3 1,.box 52 [(.tsym 2 4)],tk 9 1 4,.box 123 y16] 5 38),
 rn [3] (eL 0 4 63 [(24,o0),(23,o1),(22,o2),(2,(rA 0)),(3,(rA 2))] [.box 52 [(.tsym 1 3)],tk 9 1 3,.box 123 y11,b32_3 4] 7 39),
 rn [3] (eL 0 4 63 [(24,o0),(23,o1),(22,o2),(2,(rA 0)),(3,(rA 2))] [.box 52 [(.tsym 4 3)],.dead,.box 123 y11,b32_3 4,tk 9 1 3] 7 39),
 rn [4] (eF 64 [(.agg (wR 0 3)),o3,(.tsym 0 4)] [tk 9 1 4] 5 40),
 rn [2] (eL 0 2 64 [(9,o0),(8,o1),(2,(.tsym 0 2)),(3,(rA 1))] [tk 9 1 2,b32_3 3] 6 41),
 rn [2] (eL 0 2 64 [(9,o0),(8,o1),(2,(.tsym 2 2)),(3,(rA 1))] [.dead,b32_3 3,tk 9 1 2] 6 41),
 eF 53 [(.agg (wR 0 5)),(rA 0)] [.box 9 [o5]] 6 42,
 eF 58 [(.agg (wR 0 6)),(rA 0)] [.box 9 [o6]] 7 43,
 eF 60 [(.agg (wR 0 6)),(rA 0)] [.box 9 [o6]] 7 44,
 en49,
 eL 0 3 39 [(26,o0),(25,o1),(0,(rA 0)),(1,o2),(4,(rA 2))] [.box 97 (wR 3 3++[(.mp 1)]),.mp [] [o6],.box 35 [zA,zA]] 7 46,
 eL 2 3 39 [(39,o0),(38,o1),(37,o2),(0,(rA 0)),(1,o3),(4,(rA 2))] [.box 97 (wR 4 3++[(.mp 1)]),.mp [] [o7],.box 35 [zA,zA]] 8 47,
 eL 4 3 39 [(49,o0),(48,o1),(47,o2),(0,(rA 0)),(1,o3),(4,(rA 2))] [.box 97 (wR 4 3++[(.mp 1)]),.mp [] [o7],.box 35 [zA,zA]] 8 48,
 eF 75 [(rA 0)] y0 4 49,
 eL 0 2 75 [(24,o0),(23,o1),(22,o2),(0,(rA 0))] [.box 97 (wR 3 3++[(.mp 1)]),.mp [] [o6]] 7 50,
 eL 2 3 75 [(64,o0),(63,o1),(62,o2),(8,(.mp 0)),(0,(rA 1))] [.mp [] [o3],.box 97 (wR 4 3++[(.mp 2)]),.mp [] [o7]] 8 51,
 eL 4 4 75 [(71,o0),(70,o1),(69,o2),(10,(rA 0)),(8,(.mp 1)),(0,(rA 2)),(64,o3),(63,o4),(62,o5)] [b73_5 6,.mp [] [o11],.box 97 (wR 12 3++[(.mp 3)]),.mp [] [o15]] 16 52,
 eL 6 4 75 [(90,o0),(89,o1),(88,o2),(8,(.mp 0)),(0,(rA 1)),(10,(rA 3)),(64,o3),(63,o4),(62,o5)] [.mp [] [o6],.box 97 (wR 7 3++[(.mp 2)]),.mp [] [o10],b73_5 11] 16 53,
 eL 8 5 75 [(115,o0),(114,o1),(113,o2),(0,(rA 0)),(10,(rA 2)),(14,(rA 3)),(90,o3),(89,o4),(88,o5),(8,(.mp 4)),(64,o6),(63,o7),(62,o8)] [.box 97 (wR 9 3++[(.mp 1)]),.mp [] [o12],b73_5 13,b109_3 18,.mp [] [o21]] 22 54,
 eF 76 [(rA 0)] y0 4 55,
 eL 0 2 76 [(28,o0),(27,o1),(26,o2),(2,o3),(0,(rA 0))] y18 8 56,
 eL 2 2 76 [(49,o0),(48,o1),(47,o2),(0,(rA 0)),(2,o3)] y18 8 57,
 eL 4 3 76 [(56,o0),(55,o1),(54,o2),(0,(rA 0)),(8,(rA 2)),(49,o3),(48,o4),(47,o5),(2,o6)] [.box 97 (wR 7 3++[(.mp 1)]),.mp [] [o10],b77_6 11] 17 58,
 eL 6 2 76 [(88,o0),(87,o1),(86,o2),(0,(rA 0)),(2,o3)] y18 8 59,
 eL 8 3 76 [(110,o0),(109,o1),(108,o2),(15,(.mp 0)),(0,(rA 1))] [.mp [] [o3],.box 97 (wR 4 3++[(.mp 2)]),.mp [] [o7]] 8 60,
 eL 10 4 76 [(117,o0),(116,o1),(115,o2),(15,(.mp 0)),(0,(rA 1)),(17,(rA 3)),(110,o3),(109,o4),(108,o5)] [.mp [] [o6],.box 97 (wR 7 3++[(.mp 2)]),.mp [] [o10],b77_6 11] 17 61,
 eF 77 [(rA 0),o0] [.box 97 (wR 1 3++[(.mp 1)]),.mp [] [o4]] 5 62,
 eL 0 3 77 [(74,o0),(73,o1),(72,o2),(0,(rA 0)),(4,(rA 2)),(5,o3)] [.box 97 (wR 4 3++[(.mp 1)]),.mp [] [o7],b81_8 8] 16 63,
 eL 2 2 77 [(136,o0),(135,o1),(134,o2),(4,(rA 0)),(16,(rA 1))] [b81_8 3,b77_6 11] 17 64,
 eF 78 [(rA 0),(.agg (wR 0 8))] [.box 97 (wR 8 3++[(.mp 1)]),.mp [] [o11]] 12 65,
 eL 0 3 78 [(35,o0),(34,o1),(33,o2),(0,(rA 0)),(3,(rA 2))] [.box 97 (wR 3 3++[(.mp 1)]),.mp [] [o6],b81_8 7] 15 66,
 eL 2 4 78 [(67,o0),(66,o1),(65,o2),(10,(rA 0)),(0,(rA 1)),(3,(rA 3)),(35,o3),(34,o4),(33,o5)] [b81_8 6,.box 97 (wR 14 3++[(.mp 2)]),.mp [] [o17],b81_8 18] 26 67,
 eF 79 [o0,(.fn 80 [(.ptr 0 0)])] [b89_13 1] 14 68,
 eF 52 [o0,(.fn 105 [(.ptr 0 0)])] [b73_5 1] 6 69,
 eF 57 [o0,(.fn 106 [(.ptr 0 0)])] [b77_6 1] 7 70,
 eF 108 [(rA 0),o0,(.agg (wR 1 6))] [.box 97 (wR 7 3++[(.mp 1)]),.mp [] [o10]] 11 71,
 eL 0 1 108 [(14,o0),(13,o1),(12,o2),(5,(rA 0)),(1,o3)] [b77_6 4] 10 72,
 eF 109 [(rA 0),(.agg (wR 0 8))] [.box 97 (wR 8 3++[(.mp 1)]),.mp [] [o11]] 12 73,
 eL 0 1 109 [(50,o0),(49,o1),(48,o2),(3,(rA 0))] [b81_8 3] 11 74,
 eF 110 [o0,(.fn 111 [(.ptr 0 0)])] [b132_5 1] 6 75,
 eF 112 [o0,(.fn 113 [(.ptr 0 0)])] [b132_5 1] 6 76,
 eF 115 [o0,(.fn 114 [(.ptr 0 0)])] [b119_6 1] 7 77,
 eF 110 [o0,(.fn 116 [(.ptr 0 0)])] [b132_5 1] 6 78,
 eF 117 [(rA 0),(.agg (wR 0 8)),o8,o9] [.box 97 (wR 10 3++[(.mp 1)]),.mp [] [o13]] 14 79,
 eF 118 [o0,(.fn 80 [(.ptr 0 0)])] [b89_13 1] 14 80,
 eL 0 1 118 [(8,o0),(7,o1),(1,(.fn 80 [(.ptr 0 0)])),(0,o2)] [b89_13 3] 16 81,
 eF 92 [o0,(.fn 105 [(.ptr 0 0)])] [b73_5 1] 6 82,
 eL 0 1 92 [(8,o0),(7,o1),(1,(.fn 105 [(.ptr 0 0)])),(0,o2)] [b73_5 3] 8 33,
 eF 95 [o0,(.fn 106 [(.ptr 0 0)])] [b77_6 1] 7 83,
 eL 0 1 95 [(8,o0),(7,o1),(1,(.fn 106 [(.ptr 0 0)])),(0,o2)] [b77_6 3] 9 35,
 eF 59 [o0,(.fn 140 [(.ptr 0 0)])] [b89_13 1] 14 84,
 eF 79 [o0,(.fn 141 [(.ptr 0 0)])] [b89_13 1] 14 85,
 eF 110 [o0,(.fn 142 [(.ptr 0 0)])] [b47_4 1] 5 86,
 eF 143 [o0,(.fn 111 [(.ptr 0 0)])] [b132_5 1] 6 87,
 eL 0 1 143 [(8,o0),(7,o1),(1,(.fn 111 [(.ptr 0 0)])),(0,o2)] [b132_5 3] 8 88,
 eF 144 [o0,(.fn 113 [(.ptr 0 0)])] [b132_5 1] 6 89,
 eL 0 1 144 [(8,o0),(7,o1),(1,(.fn 113 [(.ptr 0 0)])),(0,o2)] [b132_5 3] 8 90,
 eF 118 [o0,(.fn 114 [(.ptr 0 0)])] [b119_6 1] 7 91,
 eL 0 1 118 [(8,o0),(7,o1),(1,(.fn 114 [(.ptr 0 0)])),(0,o2)] [b119_6 3] 9 81,
 eF 143 [o0,(.fn 116 [(.ptr 0 0)])] [b132_5 1] 6 92,
 eL 0 1 143 [(8,o0),(7,o1),(1,(.fn 116 [(.ptr 0 0)])),(0,o2)] [b132_5 3] 8 88,
 eF 145 [o0,(.fn 146 [(.ptr 0 0),(.ptr 1 0),(.ptr 2 0)])] y14 7 93,
 eF 80 [(.agg (wR 0 13)),(rA 0)] [b89_13 13] 26 94,
 eF 105 [(.agg (wR 0 5)),(rA 0)] [b73_5 5] 10 95,
 eF 106 [(.agg (wR 0 6)),(rA 0)] [b77_6 6] 12 96,
 eF 96 [o0,(.fn 140 [(.ptr 0 0)])] [b89_13 1] 14 97,
 eL 0 1 96 [(8,o0),(7,o1),(1,(.fn 140 [(.ptr 0 0)])),(0,o2)] [b89_13 3] 16 37,
 eF 118 [o0,(.fn 141 [(.ptr 0 0)])] [b89_13 1] 14 98,
 eL 0 1 118 [(8,o0),(7,o1),(1,(.fn 141 [(.ptr 0 0)])),(0,o2)] [b89_13 3] 16 81,
 eF 143 [o0,(.fn 142 [(.ptr 0 0)])] [b47_4 1] 5 99,
 eL 0 1 143 [(8,o0),(7,o1),(1,(.fn 142 [(.ptr 0 0)])),(0,o2)] [b47_4 3] 7 88,
 eF 111 [(.agg (wR 0 4)),(rA 0)] [b132_5 4] 9 100,
 eF 113 [(.agg (wR 0 5)),(rA 0)] [b132_5 5] 10 101,
 eF 114 [(.agg (wR 0 13)),(rA 0)] [b119_6 13] 19 102,
 eF 116 [(.agg (wR 0 4)),(rA 0)] [b132_5 4] 9 103,
 eF 144 [o0,(.fn 146 [(.ptr 0 0),(.ptr 1 0),(.ptr 2 0)])] y14 7 104,
 eL 0 5 144 [(8,o0),(7,o1),(1,(.fn 146 [(.ptr 0 0),(.ptr 1 0),(.ptr 2 0)])),(0,o2)] [.box 9 [o3],.box 9 [o4],.box 91 [(rA 3)],.box 97 (wR 5 3++[(.mp 4)]),.mp [] [o8]] 9 105,
 eF 140 [(.agg (wR 0 6)),(rA 0)] [b89_13 6] 19 106,
 eF 141 [(.agg (wR 0 13)),(rA 0)] [b89_13 13] 26 107,
 eF 142 [(.agg (wR 0 4)),(rA 0)] [b47_4 4] 8 108,
 eF 146 [(.agg (wR 0 5)),(rA 0),(rA 1),(rA 2)] [.box 9 [o5],.box 9 [o6],.box 91 [(rA 3)],.box 97 (wR 7 3++[(.mp 4)]),.mp [] [o10]] 11 109,
 en121,
 eL 0 4 9 [(5,o0),(3,(rA 0)),(4,(rA 1)),(2,(rA 2)),(1,(rA 3))] [b32_3 1,b39_2 4,b39_2 6,b28_4 8] 12 111,
 eL 2 3 9 [(6,o0),(3,(rA 0)),(2,(rA 1)),(1,(rA 2))] [b32_3 1,b39_2 4,b28_4 6] 10 112,
 eL 4 3 9 [(7,o0),(1,(rA 0)),(3,(rA 1)),(2,(rA 2))] [b28_4 1,b32_3 5,b39_2 8] 10 113,
 eF 40 [(.agg (wR 0 3))] [] 3 114,
 eL 0 2 40 [(3,o0),(1,(rA 0)),(2,(rA 1))] [b32_3 1,b39_2 4] 6 115,
 eL 2 3 40 [(5,o0),(3,o1),(1,(rA 0)),(4,(rA 1)),(2,(rA 2))] [b32_3 2,b73_5 5,b39_2 10] 12 116,
 eL 4 2 40 [(7,o0),(1,(rA 0)),(2,(rA 1)),(6,nA)] [b32_3 1,b39_2 4] 6 117,
 rn [1] (eL 4 2 40 [(7,o0),(1,(rA 0)),(2,(rA 1)),(6,(.tsym 2 1))] [b32_3 2,b39_2 5,tk 9 1 1] 7 117),
 eL 6 3 40 [(9,o0),(8,(rA 0)),(2,(rA 1)),(6,nA),(1,(rA 2)),(7,o1)] [b73_5 2,b39_2 7,b32_3 9] 12 118,
 rn [1] (eL 6 4 40 [(9,o0),(8,(rA 0)),(2,(rA 1)),(6,(.tsym 2 1)),(1,(rA 3)),(7,o2)] [b73_5 3,b39_2 8,tk 9 1 1,b32_3 10] 13 119),
 eL 8 3 40 [(10,o0),(8,(rA 0)),(6,nA),(2,(rA 1)),(1,(rA 2)),(7,o1)] [b73_5 2,b39_2 7,b32_3 9] 12 120,
 rn [1] (eL 8 4 40 [(10,o0),(8,(rA 0)),(6,(.tsym 1 1)),(2,(rA 2)),(1,(rA 3)),(7,o2)] [b73_5 3,tk 9 1 1,b39_2 8,b32_3 10] 13 121),
 rn [1] (eL 8 3 40 [(10,o0),(8,(rA 0)),(6,(.tsym 3 1)),(2,(rA 1)),(1,(rA 2)),(7,o2)] [b73_5 3,b39_2 8,b32_3 10,tk 9 1 1] 13 120),
 rn [1] (eL 8 4 40 [(10,o0),(8,(rA 0)),(6,(.tsym 4 1)),(2,(rA 2)),(1,(rA 3)),(7,o2)] [b73_5 3,.dead,b39_2 8,b32_3 10,tk 9 1 1] 13 121),
 rn [2] (eL 10 5 40 [(12,o0),(11,(rA 0)),(1,(rA 1)),(8,(rA 2)),(2,(rA 3)),(10,o1),(6,(.tsym 4 2)),(7,o3)] [b109_3 4,b32_3 7,b73_5 10,b39_2 15,tk 9 1 2] 17 122),
 eF 41 [(.agg (wR 0 3))] [] 3 123,
 eL 0 2 41 [(4,o0),(1,(rA 0)),(3,nA),(2,(rA 1))] [b32_3 1,b39_2 4] 6 124,
 rn [1] (eL 0 2 41 [(4,o0),(1,(rA 0)),(3,(.tsym 2 1)),(2,(rA 1))] [b32_3 2,b39_2 5,tk 9 1 1] 7 124),
 eL 2 2 41 [(5,o0),(1,(rA 0)),(3,nA),(2,(rA 1))] [b32_3 1,b39_2 4] 6 125,
 rn [1] (eL 2 3 41 [(5,o0),(1,(rA 0)),(3,(.tsym 1 1)),(2,(rA 2))] [b32_3 2,tk 9 1 1,b39_2 5] 7 126),
 eL 4 3 41 [(7,o0),(6,(rA 0)),(3,nA),(2,(rA 1)),(5,o1),(1,(rA 2))] [b77_6 2,b39_2 8,b32_3 10] 13 127,
 rn [1] (eL 4 4 41 [(7,o0),(6,(rA 0)),(3,(.tsym 1 1)),(2,(rA 2)),(5,o2),(1,(rA 3))] [b77_6 3,tk 9 1 1,b39_2 9,b32_3 11] 14 128),
 eL 6 2 41 [(8,o0),(1,(rA 0)),(2,(rA 1))] [b32_3 1,b39_2 4] 6 129,
 eL 8 2 41 [(10,o0),(1,(rA 0)),(9,nA),(2,(rA 1))] [b32_3 1,b39_2 4] 6 130,
 rn [1] (eL 8 2 41 [(10,o0),(1,(rA 0)),(9,(.tsym 2 1)),(2,(rA 1))] [b32_3 2,b39_2 5,tk 9 1 1] 7 130),
 eL 10 3 41 [(12,o0),(11,(rA 0)),(9,nA),(2,(rA 1)),(1,(rA 2)),(10,o1)] [b77_6 2,b39_2 8,b32_3 10] 13 131,
 rn [1] (eL 10 4 41 [(12,o0),(11,(rA 0)),(9,(.tsym 1 1)),(2,(rA 2)),(1,(rA 3)),(10,o2)] [b77_6 3,tk 9 1 1,b39_2 9,b32_3 11] 14 132),
 rn [1] (eL 10 3 41 [(12,o0),(11,(rA 0)),(9,(.tsym 3 1)),(2,(rA 1)),(1,(rA 2)),(10,o2)] [b77_6 3,b39_2 9,b32_3 11,tk 9 1 1] 14 131),
 rn [1] (eL 10 4 41 [(12,o0),(11,(rA 0)),(9,(.tsym 4 1)),(2,(rA 2)),(1,(rA 3)),(10,o2)] [b77_6 3,.dead,b39_2 9,b32_3 11,tk 9 1 1] 14 132),
 eF 42 y8 [] 4 133,
 eL 0 2 42 [(11,o0),(10,nA),(9,nA),(5,(rA 0)),(4,(rA 1))] [b81_8 1,b39_2 9] 11 134,
 rn [1] (eL 0 3 42 [(11,o0),(10,(.tsym 0 1)),(9,nA),(5,(rA 1)),(4,(rA 2))] [tk 9 1 1,b81_8 2,b39_2 10] 12 135),
 rn [1] (eL 0 3 42 [(11,o0),(10,nA),(9,(.tsym 0 1)),(5,(rA 1)),(4,(rA 2))] [tk 9 1 1,b81_8 2,b39_2 10] 12 135),
 rn [1,2] (eL 0 4 42 [(11,o0),(10,(.tsym 0 1)),(9,(.tsym 1 2)),(5,(rA 2)),(4,(rA 3))] [tk 9 1 1,tk 9 1 2,b81_8 3,b39_2 11] 13 136),
 eF 43 [(.agg (wR 0 3)),(.agg (wR 3 8))] [] 11 137,
 eL 0 2 43 [(6,o0),(5,o1),(2,(rA 0)),(3,(rA 1))] [b32_3 2,b81_8 5] 13 138,
 eL 2 3 43 [(9,o0),(8,(rA 0)),(2,(rA 1)),(3,(rA 2)),(6,o1),(5,o2)] [b81_8 3,b32_3 11,b81_8 14] 22 139,
 eL 4 3 43 [(10,o0),(8,(rA 0)),(9,o1),(2,(rA 1)),(3,(rA 2)),(6,o2),(5,o3)] [b81_8 4,b32_3 12,b81_8 15] 23 140,
 eF 82 [(.agg (wR 0 4))] [] 4 141,
 eL 0 0 82 [(5,o0),(3,nA),(4,nA)] [] 1 142,
 rn [1] (eL 0 1 82 [(5,o0),(3,(.tsym 0 1)),(4,nA)] [tk 47 4 1] 2 143),
 rn [1] (eL 0 0 82 [(5,o0),(3,nA),(4,(.tsym 0 1))] [tk 9 1 1] 2 142),
 rn [1,2] (eL 0 1 82 [(5,o0),(3,(.tsym 0 1)),(4,(.tsym 1 2))] [tk 47 4 1,tk 9 1 2] 3 143),
 en165,
 rn [1] (eL 0 2 120 [(4,o0),(1,(rA 0)),(3,(.tsym 1 1))] [b47_4 2,tk 47 4 1] 6 145),
 rn [1] (eL 0 2 120 [(4,o0),(1,(rA 0)),(3,(.tsym 2 1))] [b47_4 2,.dead,tk 47 4 1] 6 145),
 en168,
 eL 0 1 121 [(4,o0),(1,(rA 0)),(3,nA)] [b81_8 1] 9 147,
 rn [1] (eL 0 1 121 [(4,o0),(1,(rA 0)),(3,(.tsym 1 1))] [b81_8 2,tk 9 1 1] 10 147),
 en171,
 eL 0 0 45 [(4,o0),(0,o1),(3,nA)] [] 2 149,
 rn [2] (eL 0 0 45 [(4,o0),(0,o1),(3,(.tsym 0 2))] [tk 9 1 2] 3 149),
 en174,
 eL 0 1 86 [(4,o0),(1,(rA 0)),(3,nA)] [b77_6 1] 7 151,
 rn [1] (eL 0 1 86 [(4,o0),(1,(rA 0)),(3,(.tsym 1 1))] [b77_6 2,tk 9 1 1] 8 151),
 eF 85 [(.agg (wR 0 3)),(.agg (wR 3 8))] [] 11 152,
 eL 0 2 85 [(5,o0),(3,(rA 0)),(2,(rA 1))] [b81_8 1,b32_3 9] 12 153,
 eL 2 3 85 [(7,o0),(5,o1),(3,(rA 0)),(6,(rA 1)),(2,(rA 2))] [b81_8 2,b132_5 10,b32_3 15] 18 154,
 eF 87 [(.agg (wR 0 3)),(.agg (wR 3 8)),o11,o12] [] 13 155,
 eL 0 2 87 [(9,o0),(5,(rA 0)),(3,o1),(2,o2),(4,(rA 1))] [b81_8 3,b32_3 11] 14 156,
 eF 119 [o0,o1] [] 2 157,
 eF 81 [tA,o0,o1] [] 2 158,
 eF 81 [fA,o0,o1] [] 2 159,
 eF 83 [o0,(.agg (wR 1 6))] [] 7 160,
 eL 0 2 83 [(5,o0),(0,o1),(3,(rA 0)),(4,(rA 1))] [b77_6 2,b39_2 8] 10 161,
 eF 84 [(.agg (wR 0 3)),(.agg (wR 3 8))] [] 11 162,
 eL 0 1 84 [(6,o0),(5,o1),(3,(rA 0))] [b81_8 2] 10 163,
 eF 107 [(.agg (wR 0 4))] [] 4 164,
 eF 139 [o0,(.fn 107 [])] [] 1 165,
 eF 143 [o0,(.fn 107 [])] [] 1 166,
 eL 0 0 143 [(8,o0),(7,o1),(1,(.fn 107 [])),(0,o2)] [] 3 167,
 en193,
 en194,
 en195,
 en196,
 en197,
 en198]
def shT:List (List Shape):=[
 [yU (.tup [o0,o1]) 2],
 [yU o0 1],
 [yE .ret [(4,o3)] [b32_3 0] 4,yE (.exit 0) [] [b32_3 0] 3],
 [yU o0 1],
 [yE .ret [(6,o3)] [b32_3 0] 4,yE (.exit 1) [] [b32_3 0] 3],
 [yU o0 1],
 [yE .ret [(6,o7)] [b47_4 0,b32_3 4] 8,yE (.exit 0) [] [b47_4 0,b32_3 4] 7],
 [yU (.tup [o0,o1]) 2],
 [yU o0 1],
 [yE .ret [(4,o3)] [b32_3 0] 4,yE (.exit 0) [] [b32_3 0] 3],
 [yU (.tup (wR 0 3)) 3],
 [yE .ret [(4,o1),(5,o2),(6,o3)] [.box 9 [o0]] 4,yE (.exit 0) [] [.box 9 [o0]] 1],
 [yU (.tup [o0,o1]) 2],
 [yE .ret [(4,o3),(5,o4)] [b32_3 0] 5,yE (.exit 0) [] [b32_3 0] 3],
 [yE .ret [(4,o3),(5,o4)] [b32_3 0] 5,yE (.exit 2) [(6,o3),(2,(rA 0)),(1,o4)] [b32_3 0] 5],
 [yU o0 1],
 [yE .ret [(6,o3)] [b32_3 0] 4,yE (.exit 0) [] [b32_3 0] 3],
 y4,
 y4,
 [yU o0 1],
 y17,
 [yU (.tup [o0,o1]) 2],
 [yU o0 1],
 [yU o0 1],
 y17,
 [yV (.tup [o1,o2]) [.box 9 [o0]] 3],
 [yV (.tup [o1,o2]) [.box 9 [o0]] 3],
 [yV (.tup [o1,o2]) [.box 9 [o0]] 3],
 [yV (.tup []) [b32_3 0,.box 52 [o3],.box 123 y15] 4,yW (.tup []) [b32_3 0,.box 52 [(.tsym 3 3)],.box 123 y15,tk 9 1 3] 4 [3]],
 [yE (.exit 0) [] [.box 52 [o0],.box 123 y10,b32_3 1] 4,yR (.exit 0) [] [.box 52 [(.tsym 3 0)],.box 123 y10,b32_3 1,tk 9 1 0] 4 [0]],
 y4,
 [yE (.exit 0) [(2,o3)] [b32_3 0] 4,yR (.exit 0) [(2,(.tsym 1 3))] [b32_3 0,tk 9 1 3] 4 [3]],
 [yV o1 [.box 9 [o0]] 2],
 [yE .ret [(4,o1)] [.box 9 [o0]] 2,yE (.exit 0) [] [.box 9 [o0]] 1,yE .ret [(4,o5)] [b73_5 0] 6,yE (.exit 0) [] [b73_5 0] 5],
 [yV o1 [.box 9 [o0]] 2],
 [yE .ret [(4,o1)] [.box 9 [o0]] 2,yE (.exit 0) [] [.box 9 [o0]] 1,yE .ret [(4,o6)] [b77_6 0] 7,yE (.exit 0) [] [b77_6 0] 6],
 [yV o1 [.box 9 [o0]] 2],
 [yE .ret [(4,o1)] [.box 9 [o0]] 2,yE (.exit 0) [] [.box 9 [o0]] 1,yE .ret [(4,o13)] [b89_13 0] 14,yE (.exit 0) [] [b89_13 0] 13],
 [yW (.tup []) [b32_3 0,.box 52 [(.tsym 2 3)],tk 9 1 3,.box 123 y16] 4 [3],yW (.tup []) [b32_3 0,.box 52 [(.tsym 4 3)],.dead,.box 123 y16,tk 9 1 3] 4 [3]],
 [yR (.exit 0) [] [.box 52 [(.tsym 1 0)],tk 9 1 0,.box 123 y11,b32_3 1] 4 [0],yR (.exit 0) [] [.box 52 [(.tsym 4 0)],.dead,.box 123 y11,b32_3 1,tk 9 1 0] 4 [0]],
 [yW (.tsym 0 0) [tk 9 1 0] 1 [0],yW (.tsym 1 0) [.dead,tk 9 1 0] 1 [0]],
 [yR (.exit 0) [(2,(.tsym 0 3))] [tk 9 1 3,b32_3 0] 4 [3],yR (.exit 0) [(2,(.tsym 2 3))] [.dead,b32_3 0,tk 9 1 3] 4 [3]],
 [yV o1 [.box 9 [o0]] 2],
 [yV o1 [.box 9 [o0]] 2],
 [yV o1 [.box 9 [o0]] 2],
 [yV (.agg [o4,o5]) y0 6],
 [yE .pan y9 y3 8,yE (.exit 0) [(0,(rA 0)),(1,o6),(4,(rA 2))] y3 7],
 [yE .pan y9 y3 8,yE (.exit 2) [(1,o6),(0,(rA 0)),(4,(rA 2))] y3 7],
 [yE .pan y9 y3 8,yE (.exit 4) [(4,(rA 2))] y3 6],
 y7,
 [yE .pan [(136,(.ifc 35 (.agg [(.pv (.sym 4)),(.pv (.sym 5))])))] y0 6,yE (.exit 0) [(0,(rA 0))] y0 4],
 [yE .pan [(136,(.ifc 35 (.agg [(.pv (.sym 5)),(.pv (.sym 6))])))] y5 7,yE (.exit 2) [] y5 5],
 [yE .pan [(136,(.ifc 35 (.agg [(.pv (.sym 10)),(.pv (.sym 11))])))] [b73_5 0,.mp [] [o5],.box 97 (wR 6 3++[(.mp 3)]),.mp [] [o9]] 12,yE (.exit 4) [(10,(rA 0)),(8,(.mp 1)),(0,(rA 2)),(64,o10),(63,o11),(62,o12)] [b73_5 0,.mp [] [o5],.box 97 (wR 6 3++[(.mp 3)]),.mp [] [o9]] 13],
 [yE .pan [(136,(.ifc 35 (.agg [(.pv (.sym 10)),(.pv (.sym 11))])))] [.mp [] [o0],.box 97 (wR 1 3++[(.mp 2)]),.mp [] [o4],b73_5 5] 12,yE (.exit 6) [(64,o10),(63,o11),(62,o12),(8,(.mp 0)),(0,(rA 1))] [.mp [] [o0],.box 97 (wR 1 3++[(.mp 2)]),.mp [] [o4],b73_5 5] 13],
 [yE .pan [(136,(.ifc 35 (.agg [(.pv (.sym 13)),(.pv (.sym 14))])))] [.box 97 (wR 0 3++[(.mp 1)]),.mp [] [o3],b73_5 4,b109_3 9,.mp [] [o12]] 15,yE (.exit 8) [(90,o13),(89,o14),(88,o15),(8,(.mp 4)),(0,(rA 0)),(10,(rA 2)),(64,o16),(63,o17),(62,o18)] [.box 97 (wR 0 3++[(.mp 1)]),.mp [] [o3],b73_5 4,b109_3 9,.mp [] [o12]] 19],
 y7,
 [yE .pan y12 y0 6,yE (.exit 0) [(2,o4),(0,(rA 0))] y0 5],
 [yE .pan y12 y0 6,yE (.exit 2) [(2,o4),(0,(rA 0))] y0 5],
 [yE .pan [(161,(.ifc 35 (.agg [(.pv (.sym 10)),(.pv (.sym 11))])))] [.box 97 (wR 0 3++[(.mp 1)]),.mp [] [o3],b77_6 4] 12,yE (.exit 4) [(49,o10),(48,o11),(47,o12),(0,(rA 0)),(2,o13)] [.box 97 (wR 0 3++[(.mp 1)]),.mp [] [o3],b77_6 4] 14],
 [yE .pan y12 y0 6,yE (.exit 6) [(2,o4),(0,(rA 0))] y0 5],
 [yE .pan [(161,(.ifc 35 (.agg [(.pv (.sym 5)),(.pv (.sym 6))])))] y5 7,yE (.exit 8) [] y5 5],
 [yE .pan [(161,(.ifc 35 (.agg [(.pv (.sym 11)),(.pv (.sym 12))])))] [.mp [] [o0],.box 97 (wR 1 3++[(.mp 2)]),.mp [] [o4],b77_6 5] 13,yE (.exit 10) [(0,(rA 1)),(17,(rA 3)),(110,o11),(109,o12),(108,o13),(15,(.mp 0))] [.mp [] [o0],.box 97 (wR 1 3++[(.mp 2)]),.mp [] [o4],b77_6 5] 14],
 [yV (.tup y2) y0 6,yV (.tup []) y0 4],
 [yE .pan [(155,(.ifc 35 (.agg [(.pv (.sym 12)),(.pv (.sym 13))])))] y6 14,yE (.exit 0) [(0,(rA 0)),(5,o12),(4,(rA 2))] y6 13],
 [yE .pan [(155,(.ifc 35 (.agg [(.pv (.sym 14)),(.pv (.sym 15))])))] [b81_8 0,b77_6 8] 16,yE (.exit 2) [] [b81_8 0,b77_6 8] 14],
 y7,
 [yE .pan [(96,(.ifc 35 (.agg [(.pv (.sym 12)),(.pv (.sym 13))])))] y6 14,yE (.exit 0) [] y6 12],
 [yE .pan [(96,(.ifc 35 (.agg [(.pv (.sym 20)),(.pv (.sym 21))])))] [b81_8 0,.box 97 (wR 8 3++[(.mp 2)]),.mp [] [o11],b81_8 12] 22,yE (.exit 2) [(35,o20),(34,o21),(33,o22),(0,(rA 1)),(3,(rA 3))] [b81_8 0,.box 97 (wR 8 3++[(.mp 2)]),.mp [] [o11],b81_8 12] 23],
 [yV (.tup [o13,o14]) [b89_13 0] 15],
 [yV (.tup [o5,o6]) [b73_5 0] 7],
 [yV (.tup [o6,o7]) [b77_6 0] 8],
 y7,
 [yE .pan [(51,(.ifc 35 (.agg [(.pv (.sym 6)),(.pv (.sym 7))])))] [b77_6 0] 8,yE (.exit 0) [] [b77_6 0] 6],
 y7,
 [yE .pan [(82,(.ifc 35 (.agg [(.pv (.sym 8)),(.pv (.sym 9))])))] [b81_8 0] 10,yE (.exit 0) [] [b81_8 0] 8],
 [yV (.tup [o5,o6]) [b132_5 0] 7],
 [yV (.tup [o5,o6]) [b132_5 0] 7],
 [yV o6 [b119_6 0] 7],
 [yV (.tup [o5,o6]) [b132_5 0] 7],
 [yV o4 y0 5],
 y13,
 [yE .ret [(4,o13)] [b89_13 0] 14,yE (.exit 0) [] [b89_13 0] 13,yE .ret [(4,o6)] [b119_6 0] 7,yE (.exit 0) [] [b119_6 0] 6],
 [yV o5 [b73_5 0] 6],
 [yV o6 [b77_6 0] 7],
 [yV (.tup [o13,o14]) [b89_13 0] 15],
 [yV (.tup [o13,o14]) [b89_13 0] 15],
 [yV (.tup [o4,o5]) [b47_4 0] 6],
 y19,
 [yE .ret [(4,o5)] [b132_5 0] 6,yE (.exit 0) [] [b132_5 0] 5,yE .ret [(4,o4)] [b47_4 0] 5,yE (.exit 0) [] [b47_4 0] 4],
 y19,
 [yE .ret [(4,o5)] [b132_5 0] 6,yE (.exit 0) [] [b132_5 0] 5],
 [yV o6 [b119_6 0] 7],
 y19,
 [yV o6 y1 7],
 y13,
 [yV o5 [b73_5 0] 6],
 [yV o6 [b77_6 0] 7],
 y13,
 y13,
 [yV o4 [b47_4 0] 5],
 y19,
 y19,
 [yV o6 [b119_6 0] 7],
 y19,
 [yV o6 y1 7],
 [yE .ret [(4,o6)] y1 7,yE (.exit 0) [] y1 6],
 y13,
 y13,
 [yV o4 [b47_4 0] 5],
 [yV o6 y1 7],
 [yU (.agg [o0,o1]) 2],
 [yE .ret [(2,(rA 2))] [b32_3 0,b39_2 3,b39_2 5,b28_4 7] 11,yE (.exit 0) [(3,(rA 0)),(2,(rA 2)),(1,(rA 3))] [b32_3 0,b39_2 3,b39_2 5,b28_4 7] 11],
 [yE .ret [(2,(rA 1))] [b32_3 0,b39_2 3,b28_4 5] 9,yE (.exit 2) [(1,(rA 2)),(3,(rA 0)),(2,(rA 1))] [b32_3 0,b39_2 3,b28_4 5] 9],
 [yE .ret [(2,(rA 2))] [b28_4 0,b32_3 4,b39_2 7] 9,yE (.exit 4) [(2,(rA 2))] [b28_4 0,b32_3 4,b39_2 7] 9],
 [yU (.agg [o0,o1]) 2],
 [yE .ret [(2,(rA 1))] [b32_3 0,b39_2 3] 5,yE (.exit 0) [(1,(rA 0)),(2,(rA 1))] [b32_3 0,b39_2 3] 5],
 [yE .ret [(2,(rA 2))] [b32_3 0,b73_5 3,b39_2 8] 10,yE (.exit 2) [(3,o10),(1,(rA 0)),(2,(rA 2))] [b32_3 0,b73_5 3,b39_2 8] 11],
 [yE .ret [(2,(rA 1))] [b32_3 0,b39_2 3] 5,yE (.exit 4) [(2,(rA 1))] [b32_3 0,b39_2 3] 5],
 [yE .ret [(2,(rA 1))] [b73_5 0,b39_2 5,b32_3 7] 10,yE (.exit 6) [(8,(rA 0)),(6,o10),(2,(rA 1)),(1,(rA 2)),(7,o11)] [b73_5 0,b39_2 5,b32_3 7] 12],
 [yR .ret [(2,(rA 1))] [b73_5 0,b39_2 5,tk 9 1 10,b32_3 7] 11 [10],yR (.exit 6) [(8,(rA 0)),(6,(.tsym 2 10)),(2,(rA 1)),(1,(rA 3)),(7,o11)] [b73_5 0,b39_2 5,tk 9 1 10,b32_3 7] 12 [10]],
 [yE .ret [(2,(rA 1))] [b73_5 0,b39_2 5,b32_3 7] 10,yE (.exit 8) [(7,o10),(1,(rA 2)),(2,(rA 1)),(6,o11)] [b73_5 0,b39_2 5,b32_3 7] 12,yR (.exit 8) [(7,o10),(1,(rA 2)),(2,(rA 1)),(6,(.tsym 3 11))] [b73_5 0,b39_2 5,b32_3 7,tk 9 1 11] 12 [11]],
 [yR .ret [(2,(rA 2))] [b73_5 0,tk 9 1 10,b39_2 5,b32_3 7] 11 [10],yE .ret [(2,(rA 2))] [b73_5 0,.dead,b39_2 5,b32_3 7] 10,yR (.exit 8) [(7,o10),(1,(rA 3)),(2,(rA 2)),(6,(.tsym 1 11))] [b73_5 0,tk 9 1 11,b39_2 5,b32_3 7] 12 [11],yR (.exit 8) [(7,o10),(1,(rA 3)),(2,(rA 2)),(6,(.tsym 4 11))] [b73_5 0,.dead,b39_2 5,b32_3 7,tk 9 1 11] 12 [11]],
 [yR .ret [(2,(rA 3))] [b109_3 0,b32_3 3,b73_5 6,b39_2 11,tk 9 1 13] 14 [13],yR (.exit 10) [(10,o13),(8,(rA 2)),(6,(.tsym 4 14)),(2,(rA 3)),(1,(rA 1)),(7,o15)] [b109_3 0,b32_3 3,b73_5 6,b39_2 11,tk 9 1 14] 16 [14]],
 [yU (.agg [o0,o1]) 2],
 [yE .ret [(2,(rA 1))] [b32_3 0,b39_2 3] 5,yE (.exit 0) [(1,(rA 0)),(3,o5),(2,(rA 1))] [b32_3 0,b39_2 3] 6,yR (.exit 0) [(1,(rA 0)),(3,(.tsym 2 5)),(2,(rA 1))] [b32_3 0,b39_2 3,tk 9 1 5] 6 [5]],
 [yE .ret [(2,(rA 1))] [b32_3 0,b39_2 3] 5,yE (.exit 2) [(1,(rA 0)),(2,(rA 1))] [b32_3 0,b39_2 3] 5],
 [yR .ret [(2,(rA 2))] [b32_3 0,tk 9 1 5,b39_2 3] 6 [5],yR (.exit 2) [(1,(rA 0)),(2,(rA 2))] [b32_3 0,tk 9 1 5,b39_2 3] 6 [5]],
 [yE .ret [(2,(rA 1))] [b77_6 0,b39_2 6,b32_3 8] 11,yE (.exit 4) [(5,o11),(1,(rA 2)),(3,o12),(2,(rA 1))] [b77_6 0,b39_2 6,b32_3 8] 13],
 [yR .ret [(2,(rA 2))] [b77_6 0,tk 9 1 11,b39_2 6,b32_3 8] 12 [11],yR (.exit 4) [(5,o11),(1,(rA 3)),(3,(.tsym 1 12)),(2,(rA 2))] [b77_6 0,tk 9 1 12,b39_2 6,b32_3 8] 13 [12]],
 [yE .ret [(2,(rA 1))] [b32_3 0,b39_2 3] 5,yE (.exit 6) [(1,(rA 0)),(2,(rA 1))] [b32_3 0,b39_2 3] 5],
 [yE .ret [(2,(rA 1))] [b32_3 0,b39_2 3] 5,yE (.exit 8) [(2,(rA 1))] [b32_3 0,b39_2 3] 5],
 [yE .ret [(2,(rA 1))] [b77_6 0,b39_2 6,b32_3 8] 11,yE (.exit 10) [(11,(rA 0)),(2,(rA 1)),(10,o11),(1,(rA 2)),(9,o12)] [b77_6 0,b39_2 6,b32_3 8] 13,yR (.exit 10) [(11,(rA 0)),(2,(rA 1)),(10,o11),(1,(rA 2)),(9,(.tsym 3 12))] [b77_6 0,b39_2 6,b32_3 8,tk 9 1 12] 13 [12]],
 [yR .ret [(2,(rA 2))] [b77_6 0,tk 9 1 11,b39_2 6,b32_3 8] 12 [11],yE .ret [(2,(rA 2))] [b77_6 0,.dead,b39_2 6,b32_3 8] 11,yR (.exit 10) [(11,(rA 0)),(2,(rA 2)),(10,o11),(1,(rA 3)),(9,(.tsym 1 12))] [b77_6 0,tk 9 1 12,b39_2 6,b32_3 8] 13 [12],yR (.exit 10) [(11,(rA 0)),(2,(rA 2)),(10,o11),(1,(rA 3)),(9,(.tsym 4 12))] [b77_6 0,.dead,b39_2 6,b32_3 8,tk 9 1 12] 13 [12]],
 [yU (.agg [o0,o1]) 2],
 [yE .ret [(4,(rA 1))] [b81_8 0,b39_2 8] 10,yE (.exit 0) [(4,(rA 1))] [b81_8 0,b39_2 8] 10],
 [yR .ret [(4,(rA 2))] [tk 9 1 10,b81_8 0,b39_2 8] 11 [10],yR (.exit 0) [(4,(rA 2))] [tk 9 1 10,b81_8 0,b39_2 8] 11 [10]],
 [yR .ret [(4,(rA 3))] [tk 9 1 10,tk 9 1 11,b81_8 0,b39_2 8] 12 [10,11],yR (.exit 0) [(4,(rA 3))] [tk 9 1 10,tk 9 1 11,b81_8 0,b39_2 8] 12 [10,11]],
 [yU o0 1],
 [yE .ret [(4,o11)] [b32_3 0,b81_8 3] 12,yE (.exit 0) [] [b32_3 0,b81_8 3] 11],
 [yE .ret [(4,o19)] [b81_8 0,b32_3 8,b81_8 11] 20,yE (.exit 2) [(6,o19),(5,o20),(2,(rA 1)),(3,(rA 2))] [b81_8 0,b32_3 8,b81_8 11] 21],
 [yE .ret [(4,o19)] [b81_8 0,b32_3 8,b81_8 11] 20,yE (.exit 4) [(9,o19),(8,(rA 0)),(2,(rA 1)),(3,(rA 2)),(6,o20),(5,o21)] [b81_8 0,b32_3 8,b81_8 11] 22],
 y4,
 [yE (.exit 0) [(4,o0)] [] 1,yR (.exit 0) [(4,(.tsym 0 0))] [tk 9 1 0] 1 [0]],
 [yR (.exit 0) [(4,o0)] [tk 47 4 1] 2 [1],yR (.exit 0) [(4,(.tsym 1 0))] [tk 47 4 1,tk 9 1 0] 2 [0,1]],
 [yW (.tsym 0 0) [tk 47 4 0] 1 [0]],
 [yR (.exit 0) [(3,(.tsym 1 4))] [b47_4 0,tk 47 4 4] 5 [4],yR (.exit 0) [(3,(.tsym 2 4))] [b47_4 0,.dead,tk 47 4 4] 5 [4]],
 y4,
 [yE (.exit 0) [(3,o8)] [b81_8 0] 9,yR (.exit 0) [(3,(.tsym 1 8))] [b81_8 0,tk 9 1 8] 9 [8]],
 y4,
 [yE (.exit 0) [(3,o0)] [] 1,yR (.exit 0) [(3,(.tsym 0 0))] [tk 9 1 0] 1 [0]],
 y4,
 [yE (.exit 0) [(3,o6)] [b77_6 0] 7,yR (.exit 0) [(3,(.tsym 1 6))] [b77_6 0,tk 9 1 6] 7 [6]],
 [yU o0 1],
 [yE .ret [(4,o11)] [b81_8 0,b32_3 8] 12,yE (.exit 0) [] [b81_8 0,b32_3 8] 11],
 [yE .ret [(4,o16)] [b81_8 0,b132_5 8,b32_3 13] 17,yE (.exit 2) [(5,o16),(3,(rA 0)),(2,(rA 2))] [b81_8 0,b132_5 8,b32_3 13] 17],
 [yU o0 1],
 [yE .ret [(8,o11)] [b81_8 0,b32_3 8] 12,yE (.exit 0) [] [b81_8 0,b32_3 8] 11],
 [yU (.tup [(.tup []),(.ifc 35 (.agg [(.pv (.sym 0)),(.pv (.sym 1))]))]) 2],
 [yU (.tup []) 0],
 [yU (.tup [(.tup []),(.ifc 35 (.agg [(.pv (.sym 0)),(.pv (.sym 1))]))]) 2],
 [yU (.agg [o0,o1]) 2],
 [yE .ret [(4,(rA 1))] [b77_6 0,b39_2 6] 8,yE (.exit 0) [(4,(rA 1))] [b77_6 0,b39_2 6] 8],
 [yU o0 1],
 [yE .ret [(4,o8)] [b81_8 0] 9,yE (.exit 0) [] [b81_8 0] 8],
 [yU o0 1],
 [yU o0 1],
 [yU o0 1],
 y17,
 [yU o0 1],
 [yU o0 1],
 [yU o0 1],
 [yU o0 1],
 [yU o0 1],
 [yU o0 1]]
def etL:List Et:=[k4 g13,k4 g14,k5 g14b0a,k8 g15,k7 g15b1a,k8 g16,k9 g16b0a,k4 g19,k4 g20,k5 g20b0a,k4 g21,k4 g21b0a,k4 g22,k5 g22b0a,k6 g22b2a,k5 g24,k6 g24b0a,k4 g26,k4 g27,k2 g44,k3 g44b0a,k1 g51,k2 g54,k2 g93,k4 g93b0a,k2 g52a,k2 g57a,k2 g59a,k4 g63a,k6 g63ab0a,k7 g63ab0b,k4 g64a,k5 g64ab0a,k6 g64ab0b,k2 g92a,k4 g92ab0a,k2 g95a,k4 g95ab0a,k2 g96a,k4 g96ab0a,k5 g63b,k7 g63bb0a,k7 g63bb0b,k5 g64b,k6 g64bb0a,k6 g64bb0b,k6 g53a,k7 g58a,k7 g60a,k5 g39a,k7 g39ab0a,k8 g39ab2a,k8 g39ab4a,k4 g75a,k7 g75ab0a,k8 g75ab2a,k16 g75ab4a,k16 g75ab6a,k22 g75ab8a,k4 g76a,k8 g76ab0a,k8 g76ab2a,k17 g76ab4a,k8 g76ab6a,k8 g76ab8a,k17 g76ab10a,k5 g77a,k16 g77ab0a,k17 g77ab2a,k12 g78a,k15 g78ab0a,k26 g78ab2a,k14 g79a,k6 g52k,k7 g57k,k11 g108a,k10 g108ab0a,k12 g109a,k11 g109ab0a,k6 g110a,k6 g112a,k7 g115a,k6 g110b,k14 g117a,k14 g118a,k16 g118ab0a,k6 g92k,k8 g92kb0a,k7 g95k,k9 g95kb0a,k14 g59k,k14 g79b,k5 g110c,k6 g143a,k8 g143ab0a,k6 g144a,k8 g144ab0a,k7 g118b,k9 g118bb0a,k6 g143b,k8 g143bb0a,k7 g145a,k26 g80a,k10 g105a,k12 g106a,k14 g96k,k16 g96kb0a,k14 g118c,k16 g118cb0a,k5 g143c,k7 g143cb0a,k9 g111a,k10 g113a,k19 g114a,k9 g116a,k7 g144b,k9 g144bb0a,k19 g140a,k26 g141a,k8 g142a,k11 g146a,k4 g9,k12 g9b0a,k10 g9b2a,k10 g9b4a,k3 g40,k6 g40b0a,k12 g40b2a,k6 g40b4a,k7 g40b4b,k12 g40b6a,k13 g40b6b,k12 g40b8a,k13 g40b8b,k13 g40b8c,k13 g40b8d,k17 g40b10a,k3 g41,k6 g41b0a,k7 g41b0b,k6 g41b2a,k7 g41b2b,k13 g41b4a,k14 g41b4b,k6 g41b6a,k6 g41b8a,k7 g41b8b,k13 g41b10a,k14 g41b10b,k14 g41b10c,k14 g41b10d,k4 g42,k11 g42b0a,k12 g42b0b,k12 g42b0c,k13 g42b0d,k11 g43,k13 g43b0a,k22 g43b2a,k23 g43b4a,k4 g82,k1 g82b0a,k2 g82b0b,k2 g82b0c,k3 g82b0d,k4 g120,k6 g120b0a,k6 g120b0b,k8 g121,k9 g121b0a,k10 g121b0b,k1 g45,k2 g45b0a,k3 g45b0b,k6 g86,k7 g86b0a,k8 g86b0b,k11 g85,k12 g85b0a,k18 g85b2a,k13 g87,k14 g87b0a,k2 g119,k2 g81g0,k2 g81g1,k7 g83,k10 g83b0a,k11 g84,k10 g84b0a,k4 g107,k1 g139a,k1 g143k,k3 g143kb0a,etNo,etNo,etNo,etNo,etNo,etNo]
def SS:Nat→List Shape:=nth [] shT
def EE:Nat→Ent:=nth dEn enL
def TT:Nat→Et:=nth etNo etL
noncomputable abbrev ev:Q→Option Rs:=Evl PG EE TT
abbrev hh1(F:PV→Q)(G:PV→Sm):Prop:=∀a O,body PG EE TT O (F a)=G a O
abbrev hh2(F:PV→PV→Q)(G:PV→PV→Sm):Prop:=∀a b O,body PG EE TT O (F a b)=G a b O
abbrev hh3(F:PV→PV→PV→Q)(G:PV→PV→PV→Sm):Prop:=∀a b c O,body PG EE TT O (F a b c)=G a b c O
abbrev hh4(F:PV→PV→PV→PV→Q)(G:PV→PV→PV→PV→Sm):Prop:=∀a b c d O,body PG EE TT O (F a b c d)=G a b c d O
abbrev hh5(F:PV→PV→PV→PV→PV→Q)(G:PV→PV→PV→PV→PV→Sm):Prop:=∀a b c d e O,body PG EE TT O (F a b c d e)=G a b c d e O
abbrev hh6(F:PV→PV→PV→PV→PV→PV→Q)(G:PV→PV→PV→PV→PV→PV→Sm):Prop:=∀a b c d e f O,body PG EE TT O (F a b c d e f)=G a b c d e f O
abbrev hh7(F:PV→PV→PV→PV→PV→PV→PV→Q)(G:PV→PV→PV→PV→PV→PV→PV→Sm):Prop:=∀a b c d e f g O,body PG EE TT O (F a b c d e f g)=G a b c d e f g O
abbrev hh8(F:PV→PV→PV→PV→PV→PV→PV→PV→Q)(G:PV→PV→PV→PV→PV→PV→PV→PV→Sm):Prop:=∀a b c d e f g h O,body PG EE TT O (F a b c d e f g h)=G a b c d e f g h O
abbrev hh9(F:PV→PV→PV→PV→PV→PV→PV→PV→PV→Q)(G:PV→PV→PV→PV→PV→PV→PV→PV→PV→Sm):Prop:=∀a b c d e f g h i O,body PG EE TT O (F a b c d e f g h i)=G a b c d e f g h i O
abbrev hh10(F:PV→PV→PV→PV→PV→PV→PV→PV→PV→PV→Q)(G:PV→PV→PV→PV→PV→PV→PV→PV→PV→PV→Sm):Prop:=∀a b c d e f g h i j O,body PG EE TT O (F a b c d e f g h i j)=G a b c d e f g h i j O
abbrev hh11(F:PV→PV→PV→PV→PV→PV→PV→PV→PV→PV→PV→Q)(G:PV→PV→PV→PV→PV→PV→PV→PV→PV→PV→PV→Sm):Prop:=∀a b c d e f g h i j k O,body PG EE TT O (F a b c d e f g h i j k)=G a b c d e f g h i j k O
abbrev hh12(F:PV→PV→PV→PV→PV→PV→PV→PV→PV→PV→PV→PV→Q)(G:PV→PV→PV→PV→PV→PV→PV→PV→PV→PV→PV→PV→Sm):Prop:=∀a b c d e f g h i j k l O,body PG EE TT O (F a b c d e f g h i j k l)=G a b c d e f g h i j k l O
abbrev hh13(F:PV→PV→PV→PV→PV→PV→PV→PV→PV→PV→PV→PV→PV→Q)(G:PV→PV→PV→PV→PV→PV→PV→PV→PV→PV→PV→PV→PV→Sm):Prop:=∀a b c d e f g h i j k l m O,body PG EE TT O (F a b c d e f g h i j k l m)=G a b c d e f g h i j k l m O
abbrev hh14(F:PV→PV→PV→PV→PV→PV→PV→PV→PV→PV→PV→PV→PV→PV→Q)(G:PV→PV→PV→PV→PV→PV→PV→PV→PV→PV→PV→PV→PV→PV→Sm):Prop:=∀a b c d e f g h i j k l m n O,body PG EE TT O (F a b c d e f g h i j k l m n)=G a b c d e f g h i j k l m n O
abbrev hh15(F:PV→PV→PV→PV→PV→PV→PV→PV→PV→PV→PV→PV→PV→PV→PV→Q)(G:PV→PV→PV→PV→PV→PV→PV→PV→PV→PV→PV→PV→PV→PV→PV→Sm):Prop:=∀a b c d e f g h i j k l m n o O,body PG EE TT O (F a b c d e f g h i j k l m n o)=G a b c d e f g h i j k l m n o O
abbrev hh16(F:PV→PV→PV→PV→PV→PV→PV→PV→PV→PV→PV→PV→PV→PV→PV→PV→Q)(G:PV→PV→PV→PV→PV→PV→PV→PV→PV→PV→PV→PV→PV→PV→PV→PV→Sm):Prop:=∀a b c d e f g h i j k l m n o p O,body PG EE TT O (F a b c d e f g h i j k l m n o p)=G a b c d e f g h i j k l m n o p O
abbrev hh17(F:PV→PV→PV→PV→PV→PV→PV→PV→PV→PV→PV→PV→PV→PV→PV→PV→PV→Q)(G:PV→PV→PV→PV→PV→PV→PV→PV→PV→PV→PV→PV→PV→PV→PV→PV→PV→Sm):Prop:=∀a b c d e f g h i j k l m n o p q O,body PG EE TT O (F a b c d e f g h i j k l m n o p q)=G a b c d e f g h i j k l m n o p q O
abbrev hh18(F:PV→PV→PV→PV→PV→PV→PV→PV→PV→PV→PV→PV→PV→PV→PV→PV→PV→PV→Q)(G:PV→PV→PV→PV→PV→PV→PV→PV→PV→PV→PV→PV→PV→PV→PV→PV→PV→PV→Sm):Prop:=∀a b c d e f g h i j k l m n o p q r O,body PG EE TT O (F a b c d e f g h i j k l m n o p q r)=G a b c d e f g h i j k l m n o p q r O
abbrev hh19(F:PV→PV→PV→PV→PV→PV→PV→PV→PV→PV→PV→PV→PV→PV→PV→PV→PV→PV→PV→Q)(G:PV→PV→PV→PV→PV→PV→PV→PV→PV→PV→PV→PV→PV→PV→PV→PV→PV→PV→PV→Sm):Prop:=∀a b c d e f g h i j k l m n o p q r s O,body PG EE TT O (F a b c d e f g h i j k l m n o p q r s)=G a b c d e f g h i j k l m n o p q r s O
abbrev hh22(F:PV→PV→PV→PV→PV→PV→PV→PV→PV→PV→PV→PV→PV→PV→PV→PV→PV→PV→PV→PV→PV→PV→Q)(G:PV→PV→PV→PV→PV→PV→PV→PV→PV→PV→PV→PV→PV→PV→PV→PV→PV→PV→PV→PV→PV→PV→Sm):Prop:=∀a b c d e f g h i j k l m n o p q r s t u v O,body PG EE TT O (F a b c d e f g h i j k l m n o p q r s t u v)=G a b c d e f g h i j k l m n o p q r s t u v O
abbrev hh23(F:PV→PV→PV→PV→PV→PV→PV→PV→PV→PV→PV→PV→PV→PV→PV→PV→PV→PV→PV→PV→PV→PV→PV→Q)(G:PV→PV→PV→PV→PV→PV→PV→PV→PV→PV→PV→PV→PV→PV→PV→PV→PV→PV→PV→PV→PV→PV→PV→Sm):Prop:=∀a b c d e f g h i j k l m n o p q r s t u v w O,body PG EE TT O (F a b c d e f g h i j k l m n o p q r s t u v w)=G a b c d e f g h i j k l m n o p q r s t u v w O
abbrev hh26(F:PV→PV→PV→PV→PV→PV→PV→PV→PV→PV→PV→PV→PV→PV→PV→PV→PV→PV→PV→PV→PV→PV→PV→PV→PV→PV→Q)(G:PV→PV→PV→PV→PV→PV→PV→PV→PV→PV→PV→PV→PV→PV→PV→PV→PV→PV→PV→PV→PV→PV→PV→PV→PV→PV→Sm):Prop:=∀a b c d e f g h i j k l m n o p q r s t u v w x y z O,body PG EE TT O (F a b c d e f g h i j k l m n o p q r s t u v w x y z)=G a b c d e f g h i j k l m n o p q r s t u v w x y z O
abbrev RK(k:Nat):Prop:=RuleOk PG SS EE TT k
abbrev q13:=qq4 0
abbrev q14:=qq4 1
abbrev q14b0a:=qq5 2
abbrev q15:=qq8 3
abbrev q15b1a:=qq7 4
abbrev q16:=qq8 5
abbrev q16b0a:=qq9 6
abbrev q19:=qq4 7
abbrev q20:=qq4 8
abbrev q20b0a:=qq5 9
abbrev q21:=qq4 10
abbrev q21b0a:=qq4 11
abbrev q22:=qq4 12
abbrev q22b0a:=qq5 13
abbrev q22b2a:=qq6 14
abbrev q24:=qq5 15
abbrev q24b0a:=qq6 16
abbrev q26:=qq4 17
abbrev q27:=qq4 18
abbrev q44:=qq2 19
abbrev q44b0a:=qq3 20
abbrev q51:=qq1 21
abbrev q54:=qq2 22
abbrev q93:=qq2 23
abbrev q93b0a:=qq4 24
abbrev q52a:=qq2 25
abbrev q57a:=qq2 26
abbrev q59a:=qq2 27
abbrev q63a:=qq4 28
abbrev q63ab0a:=qq6 29
abbrev q63ab0b(a b c:PV)(d:List (List PV))(e f g:PV):Q:=⟨30,[a,b,c,.rows d,e,f,g]⟩
abbrev q64a:=qq4 31
abbrev q64ab0a:=qq5 32
abbrev q64ab0b(a b:PV)(c:List (List PV))(d e f:PV):Q:=⟨33,[a,b,.rows c,d,e,f]⟩
abbrev q92a:=qq2 34
abbrev q92ab0a:=qq4 35
abbrev q95a:=qq2 36
abbrev q95ab0a:=qq4 37
abbrev q96a:=qq2 38
abbrev q96ab0a:=qq4 39
abbrev q63b(a b c d:PV)(e:List (List PV)):Q:=⟨40,[a,b,c,d,.rows e]⟩
abbrev q63bb0a(a b c:PV)(d:List (List PV))(e f g:PV):Q:=⟨41,[a,b,c,.rows d,e,f,g]⟩
abbrev q63bb0b(a b c:PV)(d:List (List PV))(e f g:PV):Q:=⟨42,[a,b,c,.rows d,e,f,g]⟩
abbrev q64b(a b c d:PV)(e:List (List PV)):Q:=⟨43,[a,b,c,d,.rows e]⟩
abbrev q64bb0a(a b:PV)(c:List (List PV))(d e f:PV):Q:=⟨44,[a,b,.rows c,d,e,f]⟩
abbrev q64bb0b(a b:PV)(c:List (List PV))(d e f:PV):Q:=⟨45,[a,b,.rows c,d,e,f]⟩
abbrev q53a:=qq6 46
abbrev q58a:=qq7 47
abbrev q60a:=qq7 48
abbrev q39a:=qq5 49
abbrev q39ab0a:=qq7 50
abbrev q39ab2a:=qq8 51
abbrev q39ab4a:=qq8 52
abbrev q75a:=qq4 53
abbrev q75ab0a:=qq7 54
abbrev q75ab2a:=qq8 55
abbrev q75ab4a:=qq16 56
abbrev q75ab6a:=qq16 57
abbrev q75ab8a:=qq22 58
abbrev q76a:=qq4 59
abbrev q76ab0a:=qq8 60
abbrev q76ab2a:=qq8 61
abbrev q76ab4a:=qq17 62
abbrev q76ab6a:=qq8 63
abbrev q76ab8a:=qq8 64
abbrev q76ab10a:=qq17 65
abbrev q77a:=qq5 66
abbrev q77ab0a:=qq16 67
abbrev q77ab2a:=qq17 68
abbrev q78a:=qq12 69
abbrev q78ab0a:=qq15 70
abbrev q78ab2a(a b c d e f g h i j k l m n o p q r s t u v w x y a0:PV):Q:=⟨71,[a,b,c,d,e,f,g,h,i,j,k,l,m,n,o,p,q,r,s,t,u,v,w,x,y,a0]⟩
abbrev q79a:=qq14 72
abbrev q52k:=qq6 73
abbrev q57k:=qq7 74
abbrev q108a:=qq11 75
abbrev q108ab0a:=qq10 76
abbrev q109a:=qq12 77
abbrev q109ab0a:=qq11 78
abbrev q110a:=qq6 79
abbrev q112a:=qq6 80
abbrev q115a:=qq7 81
abbrev q110b:=qq6 82
abbrev q117a:=qq14 83
abbrev q118a:=qq14 84
abbrev q118ab0a:=qq16 85
abbrev q92k:=qq6 86
abbrev q92kb0a:=qq8 87
abbrev q95k:=qq7 88
abbrev q95kb0a:=qq9 89
abbrev q59k:=qq14 90
abbrev q79b:=qq14 91
abbrev q110c:=qq5 92
abbrev q143a:=qq6 93
abbrev q143ab0a:=qq8 94
abbrev q144a:=qq6 95
abbrev q144ab0a:=qq8 96
abbrev q118b:=qq7 97
abbrev q118bb0a:=qq9 98
abbrev q143b:=qq6 99
abbrev q143bb0a:=qq8 100
abbrev q145a:=qq7 101
abbrev q80a(a b c d e f g h i j k l m n o p q r s t u v w x y a0:PV):Q:=⟨102,[a,b,c,d,e,f,g,h,i,j,k,l,m,n,o,p,q,r,s,t,u,v,w,x,y,a0]⟩
abbrev q105a:=qq10 103
abbrev q106a:=qq12 104
abbrev q96k:=qq14 105
abbrev q96kb0a:=qq16 106
abbrev q118c:=qq14 107
abbrev q118cb0a:=qq16 108
abbrev q143c:=qq5 109
abbrev q143cb0a:=qq7 110
abbrev q111a:=qq9 111
abbrev q113a:=qq10 112
abbrev q114a:=qq19 113
abbrev q116a:=qq9 114
abbrev q144b:=qq7 115
abbrev q144bb0a:=qq9 116
abbrev q140a:=qq19 117
abbrev q141a(a b c d e f g h i j k l m n o p q r s t u v w x y a0:PV):Q:=⟨118,[a,b,c,d,e,f,g,h,i,j,k,l,m,n,o,p,q,r,s,t,u,v,w,x,y,a0]⟩
abbrev q142a:=qq8 119
abbrev q146a:=qq11 120
abbrev q9:=qq4 121
abbrev q9b0a:=qq12 122
abbrev q9b2a:=qq10 123
abbrev q9b4a:=qq10 124
abbrev q40:=qq3 125
abbrev q40b0a:=qq6 126
abbrev q40b2a:=qq12 127
abbrev q40b4a:=qq6 128
abbrev q40b4b(a:PV)(b:List (List PV))(c d e f g:PV):Q:=⟨129,[a,.rows b,c,d,e,f,g]⟩
abbrev q40b6a:=qq12 130
abbrev q40b6b(a:PV)(b:List (List PV))(c d e f g h i j k l m:PV):Q:=⟨131,[a,.rows b,c,d,e,f,g,h,i,j,k,l,m]⟩
abbrev q40b8a:=qq12 132
abbrev q40b8b(a:PV)(b:List (List PV))(c d e f g h i j k l m:PV):Q:=⟨133,[a,.rows b,c,d,e,f,g,h,i,j,k,l,m]⟩
abbrev q40b8c(a:PV)(b:List (List PV))(c d e f g h i j k l m:PV):Q:=⟨134,[a,.rows b,c,d,e,f,g,h,i,j,k,l,m]⟩
abbrev q40b8d(a:PV)(b:List (List PV))(c d e f g h i j k l m:PV):Q:=⟨135,[a,.rows b,c,d,e,f,g,h,i,j,k,l,m]⟩
abbrev q40b10a(a b:PV)(c:List (List PV))(d e f g h i j k l m n o p q:PV):Q:=⟨136,[a,b,.rows c,d,e,f,g,h,i,j,k,l,m,n,o,p,q]⟩
abbrev q41:=qq3 137
abbrev q41b0a:=qq6 138
abbrev q41b0b(a:PV)(b:List (List PV))(c d e f g:PV):Q:=⟨139,[a,.rows b,c,d,e,f,g]⟩
abbrev q41b2a:=qq6 140
abbrev q41b2b(a:PV)(b:List (List PV))(c d e f g:PV):Q:=⟨141,[a,.rows b,c,d,e,f,g]⟩
abbrev q41b4b(a:PV)(b:List (List PV))(c d e f g h i j k l m n:PV):Q:=⟨143,[a,.rows b,c,d,e,f,g,h,i,j,k,l,m,n]⟩
abbrev q41b6a:=qq6 144
abbrev q41b8a:=qq6 145
abbrev q41b8b(a:PV)(b:List (List PV))(c d e f g:PV):Q:=⟨146,[a,.rows b,c,d,e,f,g]⟩
abbrev q41b10a:=qq13 147
abbrev q41b10b(a:PV)(b:List (List PV))(c d e f g h i j k l m n:PV):Q:=⟨148,[a,.rows b,c,d,e,f,g,h,i,j,k,l,m,n]⟩
abbrev q41b10c(a:PV)(b:List (List PV))(c d e f g h i j k l m n:PV):Q:=⟨149,[a,.rows b,c,d,e,f,g,h,i,j,k,l,m,n]⟩
abbrev q41b10d(a:PV)(b:List (List PV))(c d e f g h i j k l m n:PV):Q:=⟨150,[a,.rows b,c,d,e,f,g,h,i,j,k,l,m,n]⟩
abbrev q42:=qq4 151
abbrev q42b0a:=qq11 152
abbrev q42b0b(a:PV)(b:List (List PV))(c d e f g h i j k l:PV):Q:=⟨153,[a,.rows b,c,d,e,f,g,h,i,j,k,l]⟩
abbrev q42b0c(a:PV)(b:List (List PV))(c d e f g h i j k l:PV):Q:=⟨154,[a,.rows b,c,d,e,f,g,h,i,j,k,l]⟩
abbrev q42b0d(a:PV)(b c:List (List PV))(d e f g h i j k l m:PV):Q:=⟨155,[a,.rows b,.rows c,d,e,f,g,h,i,j,k,l,m]⟩
abbrev q43:=qq11 156
abbrev q43b0a:=qq13 157
abbrev q43b2a:=qq22 158
abbrev q43b4a:=qq23 159
abbrev q82:=qq4 160
abbrev q82b0b(a:PV)(b:List (List PV)):Q:=⟨162,[a,.rows b]⟩
abbrev q82b0d(a:PV)(b c:List (List PV)):Q:=⟨164,[a,.rows b,.rows c]⟩
abbrev q120:=qq4 165
abbrev q120b0a(a:PV)(b:List (List PV))(c d e f:PV):Q:=⟨166,[a,.rows b,c,d,e,f]⟩
abbrev q120b0b(a:PV)(b:List (List PV))(c d e f:PV):Q:=⟨167,[a,.rows b,c,d,e,f]⟩
abbrev q121:=qq8 168
abbrev q121b0a:=qq9 169
abbrev q121b0b(a:PV)(b:List (List PV))(c d e f g h i j:PV):Q:=⟨170,[a,.rows b,c,d,e,f,g,h,i,j]⟩
abbrev q45:=qq1 171
abbrev q45b0a:=qq2 172
abbrev q45b0b(a b:PV)(c:List (List PV)):Q:=⟨173,[a,b,.rows c]⟩
abbrev q86:=qq6 174
abbrev q86b0a:=qq7 175
abbrev q86b0b(a:PV)(b:List (List PV))(c d e f g h:PV):Q:=⟨176,[a,.rows b,c,d,e,f,g,h]⟩
abbrev q85:=qq11 177
abbrev q85b0a:=qq12 178
abbrev q85b2a:=qq18 179
abbrev q87:=qq13 180
abbrev q87b0a:=qq14 181
abbrev q119:=qq2 182
abbrev q81g0:=qq2 183
abbrev q81g1:=qq2 184
abbrev q83:=qq7 185
abbrev q83b0a:=qq10 186
abbrev q84:=qq11 187
abbrev q84b0a:=qq10 188
abbrev q107:=qq4 189
abbrev q139a:=qq1 190
abbrev q143k:=qq1 191
abbrev q143kb0a:=qq3 192
abbrev q26w:=qq4 193
abbrev q27w:=qq4 194
abbrev q120w:=qq4 195
abbrev q86w:=qq6 196
abbrev q45w:=qq1 197
abbrev q121w:=qq8 198
set_option maxRecDepth 100000
variable(O:Q→Option Rs)
theorem h13:hh4 q13 g13:=by intro _ _ _ _ _;kernel_rfl
theorem h14:hh4 q14 g14:=by intro _ _ _ _ _;kernel_rfl
theorem h14b0a:hh5 q14b0a g14b0a:=by delta hh5;intros;kernel_rfl
theorem h15:hh8 q15 g15:=by delta hh8;intros;kernel_rfl
theorem h15b1a:hh7 q15b1a g15b1a:=by delta hh7;intros;kernel_rfl
theorem h16:hh8 q16 g16:=by delta hh8;intros;kernel_rfl
theorem h16b0a:hh9 q16b0a g16b0a:=by delta hh9;intros;kernel_rfl
theorem h19:hh4 q19 g19:=by intro _ _ _ _ _;kernel_rfl
theorem h20:hh4 q20 g20:=by intro _ _ _ _ _;kernel_rfl
theorem h20b0a:hh5 q20b0a g20b0a:=by delta hh5;intros;kernel_rfl
theorem h21:hh4 q21 g21:=by intro _ _ _ _ _;kernel_rfl
theorem h21b0a:hh4 q21b0a g21b0a:=by intro _ _ _ _ _;kernel_rfl
theorem h22:hh4 q22 g22:=by intro _ _ _ _ _;kernel_rfl
theorem h22b0a:hh5 q22b0a g22b0a:=by delta hh5;intros;kernel_rfl
theorem h22b2a:hh6 q22b2a g22b2a:=by delta hh6;intros;kernel_rfl
theorem h24:hh5 q24 g24:=by delta hh5;intros;kernel_rfl
theorem h24b0a:hh6 q24b0a g24b0a:=by delta hh6;intros;kernel_rfl
theorem h26:hh4 q26 g26:=by intro _ _ _ _ _;kernel_rfl
theorem h27:hh4 q27 g27:=by intro _ _ _ _ _;kernel_rfl
theorem h44:hh2 q44 g44:=by intro _ _ _;kernel_rfl
theorem h44b0a:hh3 q44b0a g44b0a:=by intro _ _ _ _;kernel_rfl
theorem h51:hh1 q51 g51:=by intro _ _;kernel_rfl
theorem h54:hh2 q54 g54:=by intro _ _ _;kernel_rfl
theorem h93:hh2 q93 g93:=by intro _ _ _;kernel_rfl
theorem h93b0a:hh4 q93b0a g93b0a:=by intro _ _ _ _ _;kernel_rfl
theorem h52a:hh2 q52a g52a:=by intro _ _ _;kernel_rfl
theorem h57a:hh2 q57a g57a:=by intro _ _ _;kernel_rfl
theorem h59a:hh2 q59a g59a:=by intro _ _ _;kernel_rfl
theorem h63a:hh4 q63a g63a:=by intro _ _ _ _ _;kernel_rfl
theorem h63ab0a:hh6 q63ab0a g63ab0a:=by delta hh6;intros;kernel_rfl
theorem h63ab0b(a b c d e f g):body PG EE TT O (q63ab0b a b c d e f g)=g63ab0b (T:=Sm) a b c (.rows d) e f g O:=by kernel_rfl
theorem h64a:hh4 q64a g64a:=by intro _ _ _ _ _;kernel_rfl
theorem h64ab0a:hh5 q64ab0a g64ab0a:=by delta hh5;intros;kernel_rfl
theorem h64ab0b(a b c d e f):body PG EE TT O (q64ab0b a b c d e f)=g64ab0b (T:=Sm) a b (.rows c) d e f O:=by kernel_rfl
theorem h92a:hh2 q92a g92a:=by intro _ _ _;kernel_rfl
theorem h92ab0a:hh4 q92ab0a g92ab0a:=by intro _ _ _ _ _;kernel_rfl
theorem h95a:hh2 q95a g95a:=by intro _ _ _;kernel_rfl
theorem h95ab0a:hh4 q95ab0a g95ab0a:=by intro _ _ _ _ _;kernel_rfl
theorem h96a:hh2 q96a g96a:=by intro _ _ _;kernel_rfl
theorem h96ab0a:hh4 q96ab0a g96ab0a:=by intro _ _ _ _ _;kernel_rfl
theorem h63b(a b c d e):body PG EE TT O (q63b a b c d e)=g63b (T:=Sm) a b c d (.rows e) O:=by kernel_rfl
theorem h63bb0a(a b c d e f g):body PG EE TT O (q63bb0a a b c d e f g)=g63bb0a (T:=Sm) a b c (.rows d) e f g O:=by kernel_rfl
theorem h63bb0b(a b c d e f g):body PG EE TT O (q63bb0b a b c d e f g)=g63bb0b (T:=Sm) a b c (.rows d) e f g O:=by kernel_rfl
theorem h64b(a b c d e):body PG EE TT O (q64b a b c d e)=g64b (T:=Sm) a b c d (.rows e) O:=by kernel_rfl
theorem h64bb0a(a b c d e f):body PG EE TT O (q64bb0a a b c d e f)=g64bb0a (T:=Sm) a b (.rows c) d e f O:=by kernel_rfl
theorem h64bb0b(a b c d e f):body PG EE TT O (q64bb0b a b c d e f)=g64bb0b (T:=Sm) a b (.rows c) d e f O:=by kernel_rfl
theorem h53a:hh6 q53a g53a:=by delta hh6;intros;kernel_rfl
theorem h58a:hh7 q58a g58a:=by delta hh7;intros;kernel_rfl
theorem h60a:hh7 q60a g60a:=by delta hh7;intros;kernel_rfl
theorem h39a:hh5 q39a g39a:=by delta hh5;intros;kernel_rfl
theorem h39ab0a:hh7 q39ab0a g39ab0a:=by delta hh7;intros;kernel_rfl
theorem h39ab2a:hh8 q39ab2a g39ab2a:=by delta hh8;intros;kernel_rfl
theorem h39ab4a:hh8 q39ab4a g39ab4a:=by delta hh8;intros;kernel_rfl
theorem h75a:hh4 q75a g75a:=by intro _ _ _ _ _;kernel_rfl
theorem h75ab0a:hh7 q75ab0a g75ab0a:=by delta hh7;intros;kernel_rfl
theorem h75ab2a:hh8 q75ab2a g75ab2a:=by delta hh8;intros;kernel_rfl
theorem h75ab4a:hh16 q75ab4a g75ab4a:=by delta hh16;intros;kernel_rfl
theorem h75ab6a:hh16 q75ab6a g75ab6a:=by delta hh16;intros;kernel_rfl
theorem h75ab8a:hh22 q75ab8a g75ab8a:=by delta hh22;intros;kernel_rfl
theorem h76a:hh4 q76a g76a:=by intro _ _ _ _ _;kernel_rfl
theorem h76ab0a:hh8 q76ab0a g76ab0a:=by delta hh8;intros;kernel_rfl
theorem h76ab2a:hh8 q76ab2a g76ab2a:=by delta hh8;intros;kernel_rfl
theorem h76ab4a:hh17 q76ab4a g76ab4a:=by delta hh17;intros;kernel_rfl
theorem h76ab6a:hh8 q76ab6a g76ab6a:=by delta hh8;intros;kernel_rfl
theorem h76ab8a:hh8 q76ab8a g76ab8a:=by delta hh8;intros;kernel_rfl
theorem h76ab10a:hh17 q76ab10a g76ab10a:=by delta hh17;intros;kernel_rfl
theorem h77a:hh5 q77a g77a:=by delta hh5;intros;kernel_rfl
theorem h77ab0a:hh16 q77ab0a g77ab0a:=by delta hh16;intros;kernel_rfl
theorem h77ab2a:hh17 q77ab2a g77ab2a:=by delta hh17;intros;kernel_rfl
theorem h78a:hh12 q78a g78a:=by delta hh12;intros;kernel_rfl
theorem h78ab0a:hh15 q78ab0a g78ab0a:=by delta hh15;intros;kernel_rfl
theorem h78ab2a:hh26 q78ab2a g78ab2a:=by delta hh26;intros;kernel_rfl
theorem h79a:hh14 q79a g79a:=by delta hh14;intros;kernel_rfl
theorem h52k:hh6 q52k g52k:=by delta hh6;intros;kernel_rfl
theorem h57k:hh7 q57k g57k:=by delta hh7;intros;kernel_rfl
theorem h108a:hh11 q108a g108a:=by delta hh11;intros;kernel_rfl
theorem h108ab0a:hh10 q108ab0a g108ab0a:=by delta hh10;intros;kernel_rfl
theorem h109a:hh12 q109a g109a:=by delta hh12;intros;kernel_rfl
theorem h109ab0a:hh11 q109ab0a g109ab0a:=by delta hh11;intros;kernel_rfl
theorem h110a:hh6 q110a g110a:=by delta hh6;intros;kernel_rfl
theorem h112a:hh6 q112a g112a:=by delta hh6;intros;kernel_rfl
theorem h115a:hh7 q115a g115a:=by delta hh7;intros;kernel_rfl
theorem h110b:hh6 q110b g110b:=by delta hh6;intros;kernel_rfl
theorem h117a:hh14 q117a g117a:=by delta hh14;intros;kernel_rfl
theorem h118a:hh14 q118a g118a:=by delta hh14;intros;kernel_rfl
theorem h118ab0a:hh16 q118ab0a g118ab0a:=by delta hh16;intros;kernel_rfl
theorem h92k:hh6 q92k g92k:=by delta hh6;intros;kernel_rfl
theorem h92kb0a:hh8 q92kb0a g92kb0a:=by delta hh8;intros;kernel_rfl
theorem h95k:hh7 q95k g95k:=by delta hh7;intros;kernel_rfl
theorem h95kb0a:hh9 q95kb0a g95kb0a:=by delta hh9;intros;kernel_rfl
theorem h59k:hh14 q59k g59k:=by delta hh14;intros;kernel_rfl
theorem h79b:hh14 q79b g79b:=by delta hh14;intros;kernel_rfl
theorem h110c:hh5 q110c g110c:=by delta hh5;intros;kernel_rfl
theorem h143a:hh6 q143a g143a:=by delta hh6;intros;kernel_rfl
theorem h143ab0a:hh8 q143ab0a g143ab0a:=by delta hh8;intros;kernel_rfl
theorem h144a:hh6 q144a g144a:=by delta hh6;intros;kernel_rfl
theorem h144ab0a:hh8 q144ab0a g144ab0a:=by delta hh8;intros;kernel_rfl
theorem h118b:hh7 q118b g118b:=by delta hh7;intros;kernel_rfl
theorem h118bb0a:hh9 q118bb0a g118bb0a:=by delta hh9;intros;kernel_rfl
theorem h143b:hh6 q143b g143b:=by delta hh6;intros;kernel_rfl
theorem h143bb0a:hh8 q143bb0a g143bb0a:=by delta hh8;intros;kernel_rfl
theorem h145a:hh7 q145a g145a:=by delta hh7;intros;kernel_rfl
theorem h80a:hh26 q80a g80a:=by delta hh26;intros;kernel_rfl
theorem h105a:hh10 q105a g105a:=by delta hh10;intros;kernel_rfl
theorem h106a:hh12 q106a g106a:=by delta hh12;intros;kernel_rfl
theorem h96k:hh14 q96k g96k:=by delta hh14;intros;kernel_rfl
theorem h96kb0a:hh16 q96kb0a g96kb0a:=by delta hh16;intros;kernel_rfl
theorem h118c:hh14 q118c g118c:=by delta hh14;intros;kernel_rfl
theorem h118cb0a:hh16 q118cb0a g118cb0a:=by delta hh16;intros;kernel_rfl
theorem h143c:hh5 q143c g143c:=by delta hh5;intros;kernel_rfl
theorem h143cb0a:hh7 q143cb0a g143cb0a:=by delta hh7;intros;kernel_rfl
theorem h111a:hh9 q111a g111a:=by delta hh9;intros;kernel_rfl
theorem h113a:hh10 q113a g113a:=by delta hh10;intros;kernel_rfl
theorem h114a:hh19 q114a g114a:=by delta hh19;intros;kernel_rfl
theorem h116a:hh9 q116a g116a:=by delta hh9;intros;kernel_rfl
theorem h144b:hh7 q144b g144b:=by delta hh7;intros;kernel_rfl
theorem h144bb0a:hh9 q144bb0a g144bb0a:=by delta hh9;intros;kernel_rfl
theorem h140a:hh19 q140a g140a:=by delta hh19;intros;kernel_rfl
theorem h141a:hh26 q141a g141a:=by delta hh26;intros;kernel_rfl
theorem h142a:hh8 q142a g142a:=by delta hh8;intros;kernel_rfl
theorem h146a:hh11 q146a g146a:=by delta hh11;intros;kernel_rfl
theorem h9:hh4 q9 g9:=by intro _ _ _ _ _;kernel_rfl
theorem h9b0a:hh12 q9b0a g9b0a:=by delta hh12;intros;kernel_rfl
theorem h9b2a:hh10 q9b2a g9b2a:=by delta hh10;intros;kernel_rfl
theorem h9b4a:hh10 q9b4a g9b4a:=by delta hh10;intros;kernel_rfl
theorem h40:hh3 q40 g40:=by intro _ _ _ _;kernel_rfl
theorem h40b0a:hh6 q40b0a g40b0a:=by delta hh6;intros;kernel_rfl
theorem h40b2a:hh12 q40b2a g40b2a:=by delta hh12;intros;kernel_rfl
theorem h40b4a:hh6 q40b4a g40b4a:=by delta hh6;intros;kernel_rfl
theorem h40b4b(a b c d e f g):body PG EE TT O (q40b4b a b c d e f g)=g40b4b (T:=Sm) a (.rows b) c d e f g O:=by kernel_rfl
theorem h40b6a:hh12 q40b6a g40b6a:=by delta hh12;intros;kernel_rfl
theorem h40b6b(a b c d e f g h i j k l m):body PG EE TT O (q40b6b a b c d e f g h i j k l m)=g40b6b (T:=Sm) a (.rows b) c d e f g h i j k l m O:=by kernel_rfl
theorem h40b8a:hh12 q40b8a g40b8a:=by delta hh12;intros;kernel_rfl
theorem h40b8b(a b c d e f g h i j k l m):body PG EE TT O (q40b8b a b c d e f g h i j k l m)=g40b8b (T:=Sm) a (.rows b) c d e f g h i j k l m O:=by kernel_rfl
theorem h40b8c(a b c d e f g h i j k l m):body PG EE TT O (q40b8c a b c d e f g h i j k l m)=g40b8c (T:=Sm) a (.rows b) c d e f g h i j k l m O:=by kernel_rfl
theorem h40b8d(a b c d e f g h i j k l m):body PG EE TT O (q40b8d a b c d e f g h i j k l m)=g40b8d (T:=Sm) a (.rows b) c d e f g h i j k l m O:=by kernel_rfl
theorem h40b10a(a b c d e f g h i j k l m n o p q):body PG EE TT O (q40b10a a b c d e f g h i j k l m n o p q)=g40b10a (T:=Sm) a b (.rows c) d e f g h i j k l m n o p q O:=by kernel_rfl
theorem h41:hh3 q41 g41:=by intro _ _ _ _;kernel_rfl
theorem h41b0a:hh6 q41b0a g41b0a:=by delta hh6;intros;kernel_rfl
theorem h41b0b(a b c d e f g):body PG EE TT O (q41b0b a b c d e f g)=g41b0b (T:=Sm) a (.rows b) c d e f g O:=by kernel_rfl
theorem h41b2a:hh6 q41b2a g41b2a:=by delta hh6;intros;kernel_rfl
theorem h41b2b(a b c d e f g):body PG EE TT O (q41b2b a b c d e f g)=g41b2b (T:=Sm) a (.rows b) c d e f g O:=by kernel_rfl
theorem h41b4b(a b c d e f g h i j k l m n):body PG EE TT O (q41b4b a b c d e f g h i j k l m n)=g41b4b (T:=Sm) a (.rows b) c d e f g h i j k l m n O:=by kernel_rfl
theorem h41b6a:hh6 q41b6a g41b6a:=by delta hh6;intros;kernel_rfl
theorem h41b8a:hh6 q41b8a g41b8a:=by delta hh6;intros;kernel_rfl
theorem h41b8b(a b c d e f g):body PG EE TT O (q41b8b a b c d e f g)=g41b8b (T:=Sm) a (.rows b) c d e f g O:=by kernel_rfl
theorem h41b10a:hh13 q41b10a g41b10a:=by delta hh13;intros;kernel_rfl
theorem h41b10b(a b c d e f g h i j k l m n):body PG EE TT O (q41b10b a b c d e f g h i j k l m n)=g41b10b (T:=Sm) a (.rows b) c d e f g h i j k l m n O:=by kernel_rfl
theorem h41b10c(a b c d e f g h i j k l m n):body PG EE TT O (q41b10c a b c d e f g h i j k l m n)=g41b10c (T:=Sm) a (.rows b) c d e f g h i j k l m n O:=by kernel_rfl
theorem h41b10d(a b c d e f g h i j k l m n):body PG EE TT O (q41b10d a b c d e f g h i j k l m n)=g41b10d (T:=Sm) a (.rows b) c d e f g h i j k l m n O:=by kernel_rfl
theorem h42:hh4 q42 g42:=by intro _ _ _ _ _;kernel_rfl
theorem h42b0a:hh11 q42b0a g42b0a:=by delta hh11;intros;kernel_rfl
theorem h42b0b(a b c d e f g h i j k l):body PG EE TT O (q42b0b a b c d e f g h i j k l)=g42b0b (T:=Sm) a (.rows b) c d e f g h i j k l O:=by kernel_rfl
theorem h42b0c(a b c d e f g h i j k l):body PG EE TT O (q42b0c a b c d e f g h i j k l)=g42b0c (T:=Sm) a (.rows b) c d e f g h i j k l O:=by kernel_rfl
theorem h42b0d(a b c d e f g h i j k l m):body PG EE TT O (q42b0d a b c d e f g h i j k l m)=g42b0d (T:=Sm) a (.rows b) (.rows c) d e f g h i j k l m O:=by kernel_rfl
theorem h43:hh11 q43 g43:=by delta hh11;intros;kernel_rfl
theorem h43b0a:hh13 q43b0a g43b0a:=by delta hh13;intros;kernel_rfl
theorem h43b2a:hh22 q43b2a g43b2a:=by delta hh22;intros;kernel_rfl
theorem h43b4a:hh23 q43b4a g43b4a:=by delta hh23;intros;kernel_rfl
theorem h82:hh4 q82 g82:=by intro _ _ _ _ _;kernel_rfl
theorem h82b0b(a b):body PG EE TT O (q82b0b a b)=g82b0b (T:=Sm) a (.rows b) O:=by kernel_rfl
theorem h82b0d(a b c):body PG EE TT O (q82b0d a b c)=g82b0d (T:=Sm) a (.rows b) (.rows c) O:=by kernel_rfl
theorem h120:hh4 q120 g120:=by intro _ _ _ _ _;kernel_rfl
theorem h120b0a(a b c d e f):body PG EE TT O (q120b0a a b c d e f)=g120b0a (T:=Sm) a (.rows b) c d e f O:=by kernel_rfl
theorem h120b0b(a b c d e f):body PG EE TT O (q120b0b a b c d e f)=g120b0b (T:=Sm) a (.rows b) c d e f O:=by kernel_rfl
theorem h121:hh8 q121 g121:=by delta hh8;intros;kernel_rfl
theorem h121b0a:hh9 q121b0a g121b0a:=by delta hh9;intros;kernel_rfl
theorem h121b0b(a b c d e f g h i j):body PG EE TT O (q121b0b a b c d e f g h i j)=g121b0b (T:=Sm) a (.rows b) c d e f g h i j O:=by kernel_rfl
theorem h45:hh1 q45 g45:=by intro _ _;kernel_rfl
theorem h45b0a:hh2 q45b0a g45b0a:=by intro _ _ _;kernel_rfl
theorem h45b0b(a b c):body PG EE TT O (q45b0b a b c)=g45b0b (T:=Sm) a b (.rows c) O:=by kernel_rfl
theorem h86:hh6 q86 g86:=by delta hh6;intros;kernel_rfl
theorem h86b0a:hh7 q86b0a g86b0a:=by delta hh7;intros;kernel_rfl
theorem h86b0b(a b c d e f g h):body PG EE TT O (q86b0b a b c d e f g h)=g86b0b (T:=Sm) a (.rows b) c d e f g h O:=by kernel_rfl
theorem h85:hh11 q85 g85:=by delta hh11;intros;kernel_rfl
theorem h85b0a:hh12 q85b0a g85b0a:=by delta hh12;intros;kernel_rfl
theorem h85b2a:hh18 q85b2a g85b2a:=by delta hh18;intros;kernel_rfl
theorem h87:hh13 q87 g87:=by delta hh13;intros;kernel_rfl
theorem h87b0a:hh14 q87b0a g87b0a:=by delta hh14;intros;kernel_rfl
theorem h119:hh2 q119 g119:=by intro _ _ _;kernel_rfl
theorem h81g0:hh2 q81g0 g81g0:=by intro _ _ _;kernel_rfl
theorem h81g1:hh2 q81g1 g81g1:=by intro _ _ _;kernel_rfl
theorem h83:hh7 q83 g83:=by delta hh7;intros;kernel_rfl
theorem h83b0a:hh10 q83b0a g83b0a:=by delta hh10;intros;kernel_rfl
theorem h84:hh11 q84 g84:=by delta hh11;intros;kernel_rfl
theorem h84b0a:hh10 q84b0a g84b0a:=by delta hh10;intros;kernel_rfl
theorem h107:hh4 q107 g107:=by intro _ _ _ _ _;kernel_rfl
theorem h139a:hh1 q139a g139a:=by intro _ _;kernel_rfl
theorem h143k:hh1 q143k g143k:=by intro _ _;kernel_rfl
theorem h143kb0a:hh3 q143kb0a g143kb0a:=by intro _ _ _ _;kernel_rfl
theorem h26w(a b c d):body PG EE TT O (q26w a b c d)=weakK (O ⟨17,[a,b,c,d]⟩):=by kernel_rfl
theorem h27w(a b c d):body PG EE TT O (q27w a b c d)=weakK (O ⟨18,[a,b,c,d]⟩):=by kernel_rfl
theorem h120w(a b c d):body PG EE TT O (q120w a b c d)=weakK (O ⟨165,[a,b,c,d]⟩):=by kernel_rfl
theorem h86w(a b c d e f):body PG EE TT O (q86w a b c d e f)=weakK (O ⟨174,[a,b,c,d,e,f]⟩):=by kernel_rfl
theorem h45w(a):body PG EE TT O (q45w a)=weakK (O ⟨171,[a]⟩):=by kernel_rfl
theorem h121w(a b c d e f g h):body PG EE TT O (q121w a b c d e f g h)=weakK (O ⟨168,[a,b,c,d,e,f,g,h]⟩):=by kernel_rfl
end Go.Proofs.YtjpjcjnacnlhdaaGreat
