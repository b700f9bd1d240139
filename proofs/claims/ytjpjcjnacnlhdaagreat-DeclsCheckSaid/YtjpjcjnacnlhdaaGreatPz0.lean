/- Joined. -/
import Derived.Test.YtjpjcjnacnlhdaaGreatHw
import Derived.KernelRfl
set_option linter.unusedVariables false
namespace Go.Proofs.YtjpjcjnacnlhdaaGreat.X
open Go.RowKit
section
open R
variable{T:Type}[R T]
def g124(a b:PV):T:=I 9 a b fun c=>V 5 3 c fun d=>L3 d (iv 128) (O0 [i1]) (H3 d (iv 192) (L3 d (iv 224) (S3 d (iv 192) fun e=>H3 d (iv 224) (L3 d (iv 240) (S3 d (iv 224) fun f=>H3 d (iv 240) (L3 d (iv 248) (S3 d (iv 240) fun g=>A3 b i4 fun h=>L 9 a fun i=>G3 h i (O0 [i0]) (D 1 [i1,a,b,g] 1 0 (v1 fun j=>mz [(iv 65536),i4] (L3 j (iv 65536) (O0 [i0]) (G3 j (iv 1114111) (O0 [i0]) (H3 j (iv 55296) (K3 j (iv 57343) (O0 [i0]) (O0 [i4])) (O0 [i4]))))) (w1 fun j=>O0 [j]))) (A3 b i3 fun g=>L 9 a fun h=>G3 g h (O0 [i0]) (D 2 [i1,a,b,f] 1 0 (v1 fun i=>mz [(iv 2048),i3] (L3 i (iv 2048) (O0 [i0]) (G3 i (iv 1114111) (O0 [i0]) (H3 i (iv 55296) (K3 i (iv 57343) (O0 [i0]) (O0 [i3])) (O0 [i3]))))) (w1 fun i=>O0 [i])))) (A3 b i3 fun g=>L 9 a fun h=>G3 g h (O0 [i0]) (D 2 [i1,a,b,f] 1 0 (v1 fun i=>mz [(iv 2048),i3] (L3 i (iv 2048) (O0 [i0]) (G3 i (iv 1114111) (O0 [i0]) (H3 i (iv 55296) (K3 i (iv 57343) (O0 [i0]) (O0 [i3])) (O0 [i3]))))) (w1 fun i=>O0 [i])))) (H3 d (iv 240) (L3 d (iv 248) (S3 d (iv 240) fun f=>A3 b i4 fun g=>L 9 a fun h=>G3 g h (O0 [i0]) (D 1 [i1,a,b,f] 1 0 (v1 fun i=>mz [(iv 65536),i4] (L3 i (iv 65536) (O0 [i0]) (G3 i (iv 1114111) (O0 [i0]) (H3 i (iv 55296) (K3 i (iv 57343) (O0 [i0]) (O0 [i4])) (O0 [i4]))))) (w1 fun i=>O0 [i]))) (A3 b i2 fun f=>L 9 a fun g=>G3 f g (O0 [i0]) (D 3 [i1,a,b,e] 1 0 (v1 fun h=>mz [(iv 128),i2] (L3 h (iv 128) (O0 [i0]) (G3 h (iv 1114111) (O0 [i0]) (H3 h (iv 55296) (K3 h (iv 57343) (O0 [i0]) (O0 [i2])) (O0 [i2]))))) (w1 fun h=>O0 [h])))) (A3 b i2 fun f=>L 9 a fun g=>G3 f g (O0 [i0]) (D 3 [i1,a,b,e] 1 0 (v1 fun h=>mz [(iv 128),i2] (L3 h (iv 128) (O0 [i0]) (G3 h (iv 1114111) (O0 [i0]) (H3 h (iv 55296) (K3 h (iv 57343) (O0 [i0]) (O0 [i2])) (O0 [i2]))))) (w1 fun h=>O0 [h]))))) (H3 d (iv 240) (L3 d (iv 248) (S3 d (iv 240) fun f=>A3 b i4 fun g=>L 9 a fun h=>G3 g h (O0 [i0]) (D 1 [i1,a,b,f] 1 0 (v1 fun i=>mz [(iv 65536),i4] (L3 i (iv 65536) (O0 [i0]) (G3 i (iv 1114111) (O0 [i0]) (H3 i (iv 55296) (K3 i (iv 57343) (O0 [i0]) (O0 [i4])) (O0 [i4]))))) (w1 fun i=>O0 [i]))) (A3 b i2 fun f=>L 9 a fun g=>G3 f g (O0 [i0]) (D 3 [i1,a,b,e] 1 0 (v1 fun h=>mz [(iv 128),i2] (L3 h (iv 128) (O0 [i0]) (G3 h (iv 1114111) (O0 [i0]) (H3 h (iv 55296) (K3 h (iv 57343) (O0 [i0]) (O0 [i2])) (O0 [i2]))))) (w1 fun h=>O0 [h])))) (A3 b i2 fun f=>L 9 a fun g=>G3 f g (O0 [i0]) (D 3 [i1,a,b,e] 1 0 (v1 fun h=>mz [(iv 128),i2] (L3 h (iv 128) (O0 [i0]) (G3 h (iv 1114111) (O0 [i0]) (H3 h (iv 55296) (K3 h (iv 57343) (O0 [i0]) (O0 [i2])) (O0 [i2]))))) (w1 fun h=>O0 [h]))))) (H3 d (iv 224) (L3 d (iv 240) (S3 d (iv 224) fun e=>H3 d (iv 240) (L3 d (iv 248) (S3 d (iv 240) fun f=>A3 b i4 fun g=>L 9 a fun h=>G3 g h (O0 [i0]) (D 1 [i1,a,b,f] 1 0 (v1 fun i=>mz [(iv 65536),i4] (L3 i (iv 65536) (O0 [i0]) (G3 i (iv 1114111) (O0 [i0]) (H3 i (iv 55296) (K3 i (iv 57343) (O0 [i0]) (O0 [i4])) (O0 [i4]))))) (w1 fun i=>O0 [i]))) (A3 b i3 fun f=>L 9 a fun g=>G3 f g (O0 [i0]) (D 2 [i1,a,b,e] 1 0 (v1 fun h=>mz [(iv 2048),i3] (L3 h (iv 2048) (O0 [i0]) (G3 h (iv 1114111) (O0 [i0]) (H3 h (iv 55296) (K3 h (iv 57343) (O0 [i0]) (O0 [i3])) (O0 [i3]))))) (w1 fun h=>O0 [h])))) (A3 b i3 fun f=>L 9 a fun g=>G3 f g (O0 [i0]) (D 2 [i1,a,b,e] 1 0 (v1 fun h=>mz [(iv 2048),i3] (L3 h (iv 2048) (O0 [i0]) (G3 h (iv 1114111) (O0 [i0]) (H3 h (iv 55296) (K3 h (iv 57343) (O0 [i0]) (O0 [i3])) (O0 [i3]))))) (w1 fun h=>O0 [h])))) (H3 d (iv 240) (L3 d (iv 248) (S3 d (iv 240) fun e=>A3 b i4 fun f=>L 9 a fun g=>G3 f g (O0 [i0]) (D 1 [i1,a,b,e] 1 0 (v1 fun h=>mz [(iv 65536),i4] (L3 h (iv 65536) (O0 [i0]) (G3 h (iv 1114111) (O0 [i0]) (H3 h (iv 55296) (K3 h (iv 57343) (O0 [i0]) (O0 [i4])) (O0 [i4]))))) (w1 fun h=>O0 [h]))) (O0 [i0])) (O0 [i0]))) (H3 d (iv 240) (L3 d (iv 248) (S3 d (iv 240) fun e=>A3 b i4 fun f=>L 9 a fun g=>G3 f g (O0 [i0]) (D 1 [i1,a,b,e] 1 0 (v1 fun h=>mz [(iv 65536),i4] (L3 h (iv 65536) (O0 [i0]) (G3 h (iv 1114111) (O0 [i0]) (H3 h (iv 55296) (K3 h (iv 57343) (O0 [i0]) (O0 [i4])) (O0 [i4]))))) (w1 fun h=>O0 [h]))) (O0 [i0])) (O0 [i0])))) (H3 d (iv 224) (L3 d (iv 240) (S3 d (iv 224) fun e=>H3 d (iv 240) (L3 d (iv 248) (S3 d (iv 240) fun f=>A3 b i4 fun g=>L 9 a fun h=>G3 g h (O0 [i0]) (D 1 [i1,a,b,f] 1 0 (v1 fun i=>mz [(iv 65536),i4] (L3 i (iv 65536) (O0 [i0]) (G3 i (iv 1114111) (O0 [i0]) (H3 i (iv 55296) (K3 i (iv 57343) (O0 [i0]) (O0 [i4])) (O0 [i4]))))) (w1 fun i=>O0 [i]))) (A3 b i3 fun f=>L 9 a fun g=>G3 f g (O0 [i0]) (D 2 [i1,a,b,e] 1 0 (v1 fun h=>mz [(iv 2048),i3] (L3 h (iv 2048) (O0 [i0]) (G3 h (iv 1114111) (O0 [i0]) (H3 h (iv 55296) (K3 h (iv 57343) (O0 [i0]) (O0 [i3])) (O0 [i3]))))) (w1 fun h=>O0 [h])))) (A3 b i3 fun f=>L 9 a fun g=>G3 f g (O0 [i0]) (D 2 [i1,a,b,e] 1 0 (v1 fun h=>mz [(iv 2048),i3] (L3 h (iv 2048) (O0 [i0]) (G3 h (iv 1114111) (O0 [i0]) (H3 h (iv 55296) (K3 h (iv 57343) (O0 [i0]) (O0 [i3])) (O0 [i3]))))) (w1 fun h=>O0 [h])))) (H3 d (iv 240) (L3 d (iv 248) (S3 d (iv 240) fun e=>A3 b i4 fun f=>L 9 a fun g=>G3 f g (O0 [i0]) (D 1 [i1,a,b,e] 1 0 (v1 fun h=>mz [(iv 65536),i4] (L3 h (iv 65536) (O0 [i0]) (G3 h (iv 1114111) (O0 [i0]) (H3 h (iv 55296) (K3 h (iv 57343) (O0 [i0]) (O0 [i4])) (O0 [i4]))))) (w1 fun h=>O0 [h]))) (O0 [i0])) (O0 [i0]))) (H3 d (iv 240) (L3 d (iv 248) (S3 d (iv 240) fun e=>A3 b i4 fun f=>L 9 a fun g=>G3 f g (O0 [i0]) (D 1 [i1,a,b,e] 1 0 (v1 fun h=>mz [(iv 65536),i4] (L3 h (iv 65536) (O0 [i0]) (G3 h (iv 1114111) (O0 [i0]) (H3 h (iv 55296) (K3 h (iv 57343) (O0 [i0]) (O0 [i4])) (O0 [i4]))))) (w1 fun h=>O0 [h]))) (O0 [i0])) (O0 [i0]))))
def g124b0a(a b c d:PV):T:=L3 a i4 (A3 c a fun e=>I 9 b e fun f=>V 5 3 f fun g=>L3 g (iv 128) (O0 [i0]) (G3 g (iv 191) (O0 [i0]) (B .mul 3 (iv 64) d fun h=>A3 h g fun i=>S3 i (iv 128) fun j=>A3 a i1 fun k=>Y 1 [k,b,c,j]))) (O 1 [d,(iv 65536),i4])
def g124b0b(a b c d:PV):T:=L3 a i3 (A3 c a fun e=>I 9 b e fun f=>V 5 3 f fun g=>L3 g (iv 128) (O0 [i0]) (G3 g (iv 191) (O0 [i0]) (B .mul 3 (iv 64) d fun h=>A3 h g fun i=>S3 i (iv 128) fun j=>A3 a i1 fun k=>Y 2 [k,b,c,j]))) (O 1 [d,(iv 2048),i3])
def g124b0c(a b c d:PV):T:=L3 a i2 (A3 c a fun e=>I 9 b e fun f=>V 5 3 f fun g=>L3 g (iv 128) (O0 [i0]) (G3 g (iv 191) (O0 [i0]) (B .mul 3 (iv 64) d fun h=>A3 h g fun i=>S3 i (iv 128) fun j=>A3 a i1 fun k=>Y 3 [k,b,c,j]))) (O 1 [d,(iv 128),i2])
def g125(a:PV):T:=E5 a (.lit (.int .u8 32)) (O0 [bt]) (E5 a (.lit (.int .u8 9)) (O0 [bt]) (E5 a (.lit (.int .u8 10)) (O0 [bt]) (E5 a (.lit (.int .u8 13)) (O0 [bt]) (O0 [bf]))))
def g127(a:PV):T:=TW .geq 5 a (.lit (.int .u8 48)) (TW .leq 5 a (.lit (.int .u8 57)) (O0 [bt]) (O0 [bf])) (O0 [bf])
def g130(a:PV):T:=TW .geq 5 a (.lit (.int .u8 97)) (TW .leq 5 a (.lit (.int .u8 122)) (O0 [bt]) (E5 a (.lit (.int .u8 95)) (O0 [bt]) (O0 [bf]))) (E5 a (.lit (.int .u8 95)) (O0 [bt]) (O0 [bf]))
def g131(a:PV):T:=TW .geq 5 a (.lit (.int .u8 65)) (TW .leq 5 a (.lit (.int .u8 90)) (O0 [bt]) (O0 [bf])) (O0 [bf])
def g132(a:PV):T:=Q0 11 [z4,a] (O0 [bt]) (O0 [bf])
def g133(a:PV):T:=Q0 14 [a,(.rows [[z5],[z6],[z7],[z8],[z9],[z10],[z11],[z0],[z12],[z13]])] (O0 [bt]) (O0 [bf])
def g134(a:PV):T:=Q0 14 [a,(.rows [[z14],[z15],[z16],[z17],[z18],[z19],[z20],[z21],[z22],[z23],[z24],[z25],[z26],[z27],[z28],[z29],[z30]])] (O0 [bt]) (O0 [bf])
def g147(a b:PV):T:=J (C 12 [i0,a,b] 1 (z (O0 [bf]))) (Q0 12 [i0,a,b] (O0 [bt]) (O0 [bf]))
def g147b0a(a b c:PV):T:=L 9 b fun d=>L3 a d (I 9 b a fun e=>E5 e c (O0 [bt]) (A3 a i1 fun f=>Y 12 [f,b,c])) (O 1 [])
def g148(a:PV):T:=Q0 6 [a] (O0 [bt]) (Q0 7 [a] (O0 [bt]) (Q0 5 [a] (O0 [bt]) (E5 a (.lit (.int .u8 39)) (O0 [bt]) (O0 [bf]))))
def g150(a b:PV):T:=J (C 15 [i0,b,a] 1 (z (O0 [bf]))) (Q0 15 [i0,b,a] (O0 [bt]) (O0 [bf]))
def g150b0a(a b c:PV):T:=L 52 b fun d=>L3 a d (X 52 b a (w1 fun e=>E9 e c (O0 [bt]) (A3 a i1 fun f=>Y 15 [f,b,c]))) (O 1 [])
def g126(a b:PV):T:=A3 b i1 fun c=>J (C 17 [c,a] 1 (z (O0 [e0,i0,bf]))) (D 17 [c,a] 0 0 (v2 fun d e=>mz [bt] (O0 [d,e,bt])) (v2 fun d e=>mz [bf] (O0 [d,e,bf])))
def g126b0a(a b:PV):T:=L 9 b fun c=>L3 a c (I 9 b a fun d=>E5 d (.lit (.int .u8 34)) (A3 a i1 fun e=>O0 [e0,e,bt]) (E5 d (.lit (.int .u8 10)) (O0 [e0,i0,bf]) (E5 d (.lit (.int .u8 92)) (A3 a i1 fun e=>E3 e c (O0 [e0,i0,bf]) (I 9 b e fun f=>Q0 11 [z31,f] (E5 f (.lit (.int .u8 110)) (A3 e i1 fun g=>Y 18 [g,b,(.rows [[(.lit (.int .u8 10))]])]) (E5 f (.lit (.int .u8 116)) (A3 e i1 fun g=>Y 18 [g,b,(.rows [[(.lit (.int .u8 9))]])]) (A3 e i1 fun g=>Y 18 [g,b,(.rows [[f]])]))) (O0 [e0,i0,bf]))) (A3 a i1 fun e=>Y 18 [e,b,(.rows [[d]])])))) (O 1 [])
def g126b0b(a b c:PV):T:=L 9 b fun d=>L3 a d (I 9 b a fun e=>E5 e (.lit (.int .u8 34)) (V 194 9 c fun f=>A3 a i1 fun g=>O0 [f,g,bt]) (E5 e (.lit (.int .u8 10)) (O0 [e0,i0,bf]) (E5 e (.lit (.int .u8 92)) (A3 a i1 fun f=>E3 f d (O0 [e0,i0,bf]) (I 9 b f fun g=>Q0 11 [z31,g] (E5 g (.lit (.int .u8 110)) (P 194 c (.rows [[(.lit (.int .u8 10))]]) fun h=>A3 f i1 fun i=>Y 18 [i,b,h]) (E5 g (.lit (.int .u8 116)) (P 194 c (.rows [[(.lit (.int .u8 9))]]) fun h=>A3 f i1 fun i=>Y 18 [i,b,h]) (P 194 c (.rows [[g]]) fun h=>A3 f i1 fun i=>Y 18 [i,b,h]))) (O0 [e0,i0,bf]))) (P 194 c (.rows [[e]]) fun f=>A3 a i1 fun g=>Y 18 [g,b,f])))) (O 1 [])
def g128(a b c:PV):T:=C0 20 [b,a,c] (w1 fun d=>O0 [d])
def g128b0a(a b c:PV):T:=L 9 b fun d=>L3 a d (E3 c i1 (I 9 b a fun e=>Q0 13 [e] (A3 a i1 fun f=>Y 20 [f,b,c]) (E3 c i2 (Q0 5 [e] (A3 a i1 fun f=>Y 20 [f,b,c]) (E3 c i3 (Q0 8 [e] (A3 a i1 fun f=>Y 20 [f,b,c]) (O0 [a])) (O0 [a]))) (E3 c i3 (Q0 8 [e] (A3 a i1 fun f=>Y 20 [f,b,c]) (O0 [a])) (O0 [a])))) (E3 c i2 (I 9 b a fun e=>Q0 5 [e] (A3 a i1 fun f=>Y 20 [f,b,c]) (E3 c i3 (Q0 8 [e] (A3 a i1 fun f=>Y 20 [f,b,c]) (O0 [a])) (O0 [a]))) (E3 c i3 (I 9 b a fun e=>Q0 8 [e] (A3 a i1 fun f=>Y 20 [f,b,c]) (O0 [a])) (O0 [a])))) (O0 [a])
def g98(a:PV):T:=D 22 [i0,a] 1 0 (z (O0 [(iv (-1))])) (w1 fun b=>O0 [b])
def g98b0a(a b:PV):T:=L 9 b fun c=>L3 a c (C0 0 [b,a] (w1 fun d=>E3 d i0 (O0 [a]) (A3 a d fun e=>Y 22 [e,b]))) (O 1 [])
def g99(a b:PV):T:=C0 24 [b,a] (w1 fun c=>O0 [c])
def g99b0a(a b:PV):T:=L 9 b fun c=>L3 a c (I 9 b a fun d=>Q0 4 [d] (E5 d (.lit (.int .u8 35)) (C0 25 [a,b] (v1 fun e=>mz [b] (Y 24 [e,b]))) (A3 a i1 fun e=>Y 24 [e,b])) (E5 d (.lit (.int .u8 35)) (C0 25 [a,b] (v1 fun e=>mz [b] (Y 24 [e,b]))) (O0 [a]))) (O0 [a])
def g99b2a(a b:PV):T:=L 9 b fun c=>L3 a c (I 9 b a fun d=>TW .neq 5 d (.lit (.int .u8 10)) (A3 a i1 fun e=>Y 25 [e,b]) (O0 [a,b])) (O0 [a,b])
def g129(a:PV):T:=L 9 a fun b=>G3 b i0 (I 9 a i0 fun c=>E5 c (.lit (.int .u8 45)) (E3 i1 b (O0 [i0,i2]) (I 9 a i1 fun d=>E5 d (.lit (.int .u8 48)) (G3 b i2 (O0 [i0,i2]) (O0 [i0,i2])) (D 27 [i1,a] 1 0 (mz [i1,a,bt] (D 29 [i1,a,(.lit (.int .u64 0))] 1 0 (v1 fun e=>mz [bt] (TW .eql 196 e (.lit (.int .u64 4611686018427387904)) (C0 31 [e] (w1 fun f=>O0 [f,i0])) (C0 31 [e] (w1 fun f=>O0 [f,i0])))) (w2 fun e f=>O0 [e,f]))) (w2 fun e f=>O0 [e,f])))) (E3 i0 b (O0 [i0,i2]) (E5 c (.lit (.int .u8 48)) (G3 b i1 (O0 [i0,i2]) (D 28 [i0,a] 1 0 (mz [i0,a,bf] (D 30 [i0,a,(.lit (.int .u64 0))] 1 0 (v1 fun d=>mz [bf] (TW .eql 196 d (.lit (.int .u64 4611686018427387904)) (O0 [i0,i3]) (C0 32 [d] (w1 fun e=>O0 [e,i0])))) (w2 fun d e=>O0 [d,e]))) (w2 fun d e=>O0 [d,e]))) (D 28 [i0,a] 1 0 (mz [i0,a,bf] (D 30 [i0,a,(.lit (.int .u64 0))] 1 0 (v1 fun d=>mz [bf] (TW .eql 196 d (.lit (.int .u64 4611686018427387904)) (O0 [i0,i3]) (C0 32 [d] (w1 fun e=>O0 [e,i0])))) (w2 fun d e=>O0 [d,e]))) (w2 fun d e=>O0 [d,e]))))) (E3 i0 b (O0 [i0,i2]) (I 9 a i0 fun c=>E5 c (.lit (.int .u8 48)) (G3 b i1 (O0 [i0,i2]) (D 28 [i0,a] 1 0 (mz [i0,a,bf] (D 30 [i0,a,(.lit (.int .u64 0))] 1 0 (v1 fun d=>mz [bf] (TW .eql 196 d (.lit (.int .u64 4611686018427387904)) (O0 [i0,i3]) (C0 32 [d] (w1 fun e=>O0 [e,i0])))) (w2 fun d e=>O0 [d,e]))) (w2 fun d e=>O0 [d,e]))) (D 28 [i0,a] 1 0 (mz [i0,a,bf] (D 30 [i0,a,(.lit (.int .u64 0))] 1 0 (v1 fun d=>mz [bf] (TW .eql 196 d (.lit (.int .u64 4611686018427387904)) (O0 [i0,i3]) (C0 32 [d] (w1 fun e=>O0 [e,i0])))) (w2 fun d e=>O0 [d,e]))) (w2 fun d e=>O0 [d,e]))))
def g129b0a(a b:PV):T:=L 9 b fun c=>L3 a c (I 9 b a fun d=>TW .lss 5 d (.lit (.int .u8 48)) (O0 [i0,i2]) (TW .gtr 5 d (.lit (.int .u8 57)) (O0 [i0,i2]) (A3 a i1 fun e=>Y 27 [e,b]))) (O 1 [i1,b,bt])
def g129b0b(a b:PV):T:=L 9 b fun c=>L3 a c (I 9 b a fun d=>TW .lss 5 d (.lit (.int .u8 48)) (O0 [i0,i2]) (TW .gtr 5 d (.lit (.int .u8 57)) (O0 [i0,i2]) (A3 a i1 fun e=>Y 28 [e,b]))) (O 1 [i0,b,bf])
def g129b2a(a b c:PV):T:=L 9 b fun d=>L3 a d (B .mul 196 (.lit (.int .u64 10)) c fun e=>I 9 b a fun f=>B .sub 5 f (.lit (.int .u8 48)) fun g=>V 5 196 g fun h=>B .add 196 e h fun i=>TW .gtr 196 i (.lit (.int .u64 4611686018427387904)) (O0 [i0,i3]) (A3 a i1 fun j=>Y 29 [j,b,i])) (O 1 [c,bt])
def g129b2b(a b c:PV):T:=L 9 b fun d=>L3 a d (B .mul 196 (.lit (.int .u64 10)) c fun e=>I 9 b a fun f=>B .sub 5 f (.lit (.int .u8 48)) fun g=>V 5 196 g fun h=>B .add 196 e h fun i=>TW .gtr 196 i (.lit (.int .u64 4611686018427387904)) (O0 [i0,i3]) (A3 a i1 fun j=>Y 30 [j,b,i])) (O 1 [c,bf])
def g149g0(a:PV):T:=B .rem 196 a (.lit (.int .u64 9223372036854775808)) fun b=>V 196 2 b fun c=>C0 33 [i0,c] (w1 fun d=>O0 [d])
def g149g1(a:PV):T:=B .rem 196 a (.lit (.int .u64 9223372036854775808)) fun b=>V 196 2 b fun c=>C0 34 [c] (w1 fun d=>O0 [d])
def g152(a b:PV):T:=C0 36 [a] (w1 fun c=>B .add 196 c (.lit (.int .u64 9223372036854775808)) fun d=>C0 36 [b] (w1 fun e=>B .sub 196 d e fun f=>B .rem 196 f (.lit (.int .u64 9223372036854775808)) fun g=>C0 35 [g] (w1 fun h=>O0 [h])))
def g153(a:PV):T:=C0 36 [a] (w1 fun b=>C0 35 [b] (w1 fun c=>O0 [c]))
def g155(a:PV):T:=TW .geq 196 a (.lit (.int .u64 4611686018427387904)) (B .sub 196 a (.lit (.int .u64 4611686018427387904)) fun b=>V 196 2 b fun c=>B .sub 2 c (iv 4611686018427387904) fun d=>O0 [d]) (V 196 2 a fun b=>O0 [b])
def g156(a:PV):T:=V 2 196 a fun b=>B .rem 196 b (.lit (.int .u64 9223372036854775808)) fun c=>O0 [c]
def g65(a:PV):T:=L 9 a fun b=>G3 b (iv 60000) (O0 [nS,i3,i0]) (C0 21 [a] (w1 fun c=>H3 c i0 (O0 [nS,(iv 100),c]) (C0 23 [a,i0] (w1 fun d=>J (D 38 [d,a] 1 2 (mz [nS,a] (O 1 [(.rows [[i0,e0,i0,b]]),i0,i0])) (v1 fun e=>mz [a] (P 65 e (.rows [[i0,e0,i0,b]]) fun f=>O 1 [f,i0,i0]))) (C0 38 [d,a] (w3 fun e f g=>O0 [e,f,g]))))))
def g65b0a(a b:PV):T:=L 9 b fun c=>L3 a c (C0 40 [b,a] (w6 fun d e f g h i=>N3 i i0 (O0 [nS,i,a]) (C0 23 [b,h] (w1 fun j=>Y 39 [j,b,(.rows [[d,e,f,g]])])))) (O 1 [nS,b])
def g65b0b(a b c:PV):T:=L 9 b fun d=>L3 a d (C0 40 [b,a] (w6 fun e f g h i j=>N3 j i0 (O0 [nS,j,a]) (P 65 c (.rows [[e,f,g,h]]) fun k=>C0 23 [b,i] (w1 fun l=>Y 39 [l,b,k])))) (O 2 [c,b])
def g100(a b:PV):T:=I 9 a b fun c=>E5 c (.lit (.int .u8 34)) (D 16 [a,b] 0 0 (v2 fun d e=>mz [bt] (O0 [i4,d,i0,b,e,i0])) (v2 fun d e=>mz [bf] (O0 [i0,e0,i0,b,i0,(iv 103)]))) (Q0 5 [c] (C0 19 [a,b,i2] (w1 fun d=>C0 41 [b,d,a,b] (ms [i0,e0,i0,b,i0,e0,i0,i0,a] (v1 fun e=>mz [d] (S 9 a (some (.pv e)) (some (.pv d)) fun f=>C0 26 [f] (w2 fun g h=>N3 h i0 (O0 [i0,e0,i0,b,i0,(iv 102)]) (O0 [i3,f,g,b,d,i0]))))))) (A3 b i1 fun d=>Q0 6 [c] (C0 19 [a,b,i1] (w1 fun e=>S 9 a (some (.pv b)) (some (.pv e)) fun f=>L 9 f fun g=>G3 g (iv 40) (O0 [i0,f,i0,b,i0,(iv 104)]) (Q0 7 [c] (Q0 8 [c] (Q0 10 [f] (Q0 9 [f] (O0 [i7,f,i0,b,e,i0]) (O0 [i6,f,i0,b,e,i0])) (Q0 9 [f] (O0 [i7,f,i0,b,e,i0]) (O0 [i5,f,i0,b,e,i0]))) (Q0 10 [f] (Q0 9 [f] (O0 [i7,f,i0,b,e,i0]) (O0 [i6,f,i0,b,e,i0])) (Q0 9 [f] (O0 [i7,f,i0,b,e,i0]) (O0 [i2,f,i0,b,e,i0])))) (Q0 8 [c] (Q0 10 [f] (Q0 9 [f] (O0 [i7,f,i0,b,e,i0]) (O0 [i6,f,i0,b,e,i0])) (Q0 9 [f] (O0 [i7,f,i0,b,e,i0]) (O0 [i5,f,i0,b,e,i0]))) (Q0 10 [f] (Q0 9 [f] (O0 [i7,f,i0,b,e,i0]) (O0 [i6,f,i0,b,e,i0])) (Q0 9 [f] (O0 [i7,f,i0,b,e,i0]) (O0 [i1,f,i0,b,e,i0]))))))) (Q0 7 [c] (C0 19 [a,b,i1] (w1 fun e=>S 9 a (some (.pv b)) (some (.pv e)) fun f=>L 9 f fun g=>G3 g (iv 40) (O0 [i0,f,i0,b,i0,(iv 104)]) (Q0 8 [c] (Q0 10 [f] (Q0 9 [f] (O0 [i7,f,i0,b,e,i0]) (O0 [i6,f,i0,b,e,i0])) (Q0 9 [f] (O0 [i7,f,i0,b,e,i0]) (O0 [i5,f,i0,b,e,i0]))) (Q0 10 [f] (Q0 9 [f] (O0 [i7,f,i0,b,e,i0]) (O0 [i6,f,i0,b,e,i0])) (Q0 9 [f] (O0 [i7,f,i0,b,e,i0]) (O0 [i2,f,i0,b,e,i0])))))) (Q0 8 [c] (C0 19 [a,b,i3] (w1 fun e=>S 9 a (some (.pv b)) (some (.pv e)) fun f=>L 9 f fun g=>G3 g (iv 40) (O0 [i0,f,i0,b,i0,(iv 104)]) (Q0 10 [f] (Q0 9 [f] (O0 [i7,f,i0,b,e,i0]) (O0 [i6,f,i0,b,e,i0])) (Q0 9 [f] (O0 [i7,f,i0,b,e,i0]) (O0 [i5,f,i0,b,e,i0]))))) (S 9 a (some (.pv b)) (some (.pv d)) fun e=>Q0 9 [e] (L 9 e fun f=>G3 f (iv 40) (O0 [i0,e,i0,b,i0,(iv 104)]) (Q0 10 [e] (O0 [i7,e,i0,b,d,i0]) (O0 [i7,e,i0,b,d,i0]))) (O0 [i0,e0,i0,b,i0,(iv 101)]))))))
def g100b0a(a b c d:PV):T:=S3 b i1 fun e=>L3 a e (I 9 c a fun f=>E5 f (.lit (.int .u8 48)) (A3 a i1 fun g=>Y 41 [g,b,c,d]) (O0 [i0,e0,i0,d,i0,e0,i0,i0,c,a,b])) (O0 [i0,e0,i0,d,i0,e0,i0,i0,c,a,b])
def g104(a b c d:PV):T:=E3 c d (X 84 a c (w11 fun e f g h i j k l m n o=>O0 [e,f,g,h,i,j,k,l,m,n,o])) (A3 c i1 fun e=>C0 43 [e,d,b,c,a,c] (ms [i0,e0,i0,i0,e0,i0,nS,nS,nS,nS,i0,a,b,c] (v1 fun f=>mz [d] (C0 158 [a,b,c,f] (w11 fun g h i j k l m n o p q=>A3 f i1 fun r=>C0 158 [a,b,r,d] (w11 fun s t u v w x y a0 b0 c0 d0=>X 65 b f (w4 fun f0 g0 h0 j0=>E9 g0 z33 (O 1 [(iv 10),e0,i0,i0,e0,i0,nS,(.rows [[g,h,i,j,k,l,m,n,o,p,q],[s,t,u,v,w,x,y,a0,b0,c0,d0]]),nS,nS,j0]) (E9 g0 z32 (O 1 [(iv 11),e0,i0,i0,e0,i0,nS,(.rows [[g,h,i,j,k,l,m,n,o,p,q],[s,t,u,v,w,x,y,a0,b0,c0,d0]]),nS,nS,j0]) (O 1 [i5,e0,i0,i0,e0,i0,nS,(.rows [[i5,e0,i0,i0,e0,i0,nS,(.rows [[i3,g0,i0,i0,e0,i0,nS,nS,nS,nS,j0],[g,h,i,j,k,l,m,n,o,p,q]]),nS,nS,j0],[s,t,u,v,w,x,y,a0,b0,c0,d0]]),nS,nS,j0])))))))))
def g104b0a(a b c d e f:PV):T:=L3 a b (X 65 c d (w4 fun g h i j=>C0 47 [h] (w1 fun k=>X 65 c a (w4 fun l m n o=>C0 47 [m] (w1 fun p=>L3 p k (A3 a i1 fun q=>Y 43 [q,b,c,a,e,f]) (E3 p k (C0 50 [k] (w1 fun q=>E3 q i1 (A3 a i1 fun r=>Y 43 [r,b,c,a,e,f]) (A3 a i1 fun r=>Y 43 [r,b,c,d,e,f]))) (A3 a i1 fun q=>Y 43 [q,b,c,d,e,f]))))))) (O0 [i0,e0,i0,i0,e0,i0,nS,nS,nS,nS,i0,e,c,f,d,b])
def g103(a:PV):T:=D 45 [i0,a] 1 0 (z (O0 [(iv (-1))])) (w1 fun b=>O0 [b])
def g103b0a(a b:PV):T:=L 52 b fun c=>L3 a c (X 52 b a (w1 fun d=>C0 47 [d] (w1 fun e=>N3 e i4 (A3 a i1 fun f=>Y 45 [f,b]) (S3 a i1 fun f=>C0 46 [f,b,a] (v1 fun g=>mz [b,a] (H3 g i0 (X 52 b g (w1 fun h=>C0 47 [h] (w1 fun i=>E3 i i4 (O0 [a]) (A3 a i1 fun j=>Y 45 [j,b])))) (A3 a i1 fun h=>Y 45 [h,b]))))))) (O 1 [])
def g103b2a(a b c:PV):T:=H3 a i0 (X 52 b a (w1 fun d=>C0 47 [d] (w1 fun e=>G3 e i4 (S3 a i1 fun f=>Y 46 [f,b,c]) (O0 [a,b,c])))) (O0 [a,b,c])
def g137(a:PV):T:=D 48 [i0,(.rows [[(.rows [[z34]])],[(.rows [[z32]])],[(.rows [[z33]])],[(.rows [[z35],[z36],[z37],[z38],[z39],[z40]])],[(.rows [[z41],[z42]])],[(.rows [[z43],[z44]])],[(.rows [[z45],[z46],[z47]])]]),a] 1 0 (mz [(.rows [[(.rows [[z34]])],[(.rows [[z32]])],[(.rows [[z33]])],[(.rows [[z35],[z36],[z37],[z38],[z39],[z40]])],[(.rows [[z41],[z42]])],[(.rows [[z43],[z44]])],[(.rows [[z45],[z46],[z47]])]])] (O0 [i8])) (v1 fun b=>mz [(.rows [[(.rows [[z34]])],[(.rows [[z32]])],[(.rows [[z33]])],[(.rows [[z35],[z36],[z37],[z38],[z39],[z40]])],[(.rows [[z41],[z42]])],[(.rows [[z43],[z44]])],[(.rows [[z45],[z46],[z47]])]])] (O0 [b]))
def g137b0a(a b c:PV):T:=L 200 b fun d=>L3 a d (D 49 [i0,b,a,c] 1 0 (mz [a,b,c] (A3 a i1 fun e=>Y 48 [e,b,c])) (v1 fun e=>mz [b] (O0 [e,b]))) (O 1 [b])
def g137b2a(a b c d:PV):T:=X 200 b c (w1 fun e=>L 52 e fun f=>L3 a f (X 52 e a (w1 fun g=>E9 g d (A3 c i1 fun h=>O0 [h,b]) (A3 a i1 fun h=>Y 49 [h,b,c,d]))) (O 1 [c,b,d]))
def g138(a:PV):T:=E3 a i4 (O0 [i0]) (L3 a i6 (O0 [i2]) (O0 [i1]))
def g28(a:PV):T:=C0 159 [a] (w3 fun b c d=>N3 c i0 (C0 69 [c,d,b,i0,i0,i0,i0] (w5 fun e f g h i=>O0 [e,f,g,h,i])) (O0 [b,i0,i0,i0,i0]))
def g7(a:PV):T:=C0 51 [a] (w5 fun b c d e f=>J (J (J (D 53 [b,c,d,e,f] 0 4 (v5 fun g h i j k=>mz [nS,nS,nS,nS,nS,nS,nS,nS] (N3 j i0 (O0 [nS,nS,nS,nS,j,k]) (O0 [nS,nS,nS,nS,i0,i0]))) (v5 fun g h i j k=>ms [nS,nS,nS] (v1 fun l=>mz [nS,nS,nS,nS] (N3 j i0 (O0 [nS,nS,nS,nS,j,k]) (O 1 [nS,nS,nS,l,i0,i0]))))) (D 53 [b,c,d,e,f] 3 10 (v5 fun g h i j k=>ms [nS,nS] (v1 fun l=>mz [nS,nS,nS,nS,nS] (N3 j i0 (O0 [nS,nS,nS,nS,j,k]) (O 2 [nS,nS,l,nS,i0,i0])))) (v5 fun g h i j k=>ms [nS,nS] (v2 fun l m=>mz [nS,nS,nS,nS] (N3 j i0 (O0 [nS,nS,nS,nS,j,k]) (O 3 [nS,nS,l,m,i0,i0])))))) (J (D 53 [b,c,d,e,f] 2 9 (v5 fun g h i j k=>ms [nS] (v1 fun l=>mz [nS,nS,nS,nS,nS,nS] (N3 j i0 (O0 [nS,nS,nS,nS,j,k]) (O 4 [nS,l,nS,nS,i0,i0])))) (v5 fun g h i j k=>ms [nS] (v1 fun l=>ms [nS] (v1 fun m=>mz [nS,nS,nS,nS] (N3 j i0 (O0 [nS,nS,nS,nS,j,k]) (O 5 [nS,l,nS,m,i0,i0])))))) (D 53 [b,c,d,e,f] 8 14 (v5 fun g h i j k=>ms [nS] (v2 fun l m=>mz [nS,nS,nS,nS,nS] (N3 j i0 (O0 [nS,nS,nS,nS,j,k]) (O 6 [nS,l,m,nS,i0,i0])))) (v5 fun g h i j k=>ms [nS] (v3 fun l m n=>mz [nS,nS,nS,nS] (N3 j i0 (O0 [nS,nS,nS,nS,j,k]) (O 7 [nS,l,m,n,i0,i0]))))))) (J (J (D 53 [b,c,d,e,f] 1 7 (v6 fun g h i j k l=>mz [nS,nS,nS,nS,nS,nS,nS] (N3 j i0 (O0 [nS,nS,nS,nS,j,k]) (O 8 [l,nS,nS,nS,i0,i0]))) (v6 fun g h i j k l=>ms [nS,nS] (v1 fun m=>mz [nS,nS,nS,nS] (N3 j i0 (O0 [nS,nS,nS,nS,j,k]) (O 9 [l,nS,nS,m,i0,i0]))))) (D 53 [b,c,d,e,f] 6 13 (v6 fun g h i j k l=>ms [nS] (v1 fun m=>mz [nS,nS,nS,nS,nS] (N3 j i0 (O0 [nS,nS,nS,nS,j,k]) (O 10 [l,nS,m,nS,i0,i0])))) (v6 fun g h i j k l=>ms [nS] (v2 fun m n=>mz [nS,nS,nS,nS] (N3 j i0 (O0 [nS,nS,nS,nS,j,k]) (O 11 [l,nS,m,n,i0,i0])))))) (J (D 53 [b,c,d,e,f] 5 12 (v7 fun g h i j k l m=>mz [nS,nS,nS,nS,nS,nS] (N3 j i0 (O0 [nS,nS,nS,nS,j,k]) (O 12 [l,m,nS,nS,i0,i0]))) (v7 fun g h i j k l m=>ms [nS] (v1 fun n=>mz [nS,nS,nS,nS] (N3 j i0 (O0 [nS,nS,nS,nS,j,k]) (O 13 [l,m,nS,n,i0,i0]))))) (D 53 [b,c,d,e,f] 11 15 (v8 fun g h i j k l m n=>mz [nS,nS,nS,nS,nS] (N3 j i0 (O0 [nS,nS,nS,nS,j,k]) (O 14 [l,m,n,nS,i0,i0]))) (v9 fun g h i j k l m n o=>mz [nS,nS,nS,nS] (N3 j i0 (O0 [nS,nS,nS,nS,j,k]) (O 15 [l,m,n,o,i0,i0])))))))
def g7b0a(a b c d e:PV):T:=E3 d i0 (C0 70 [a,b,c,d,e] (ms [a,b,c,d,e] (w4 fun f g h i=>N3 f i0 (Q5 71 [z14,a,b,c,d,e] (fun j k l m n=>C0 160 [j,k,l,m,n] (w10 fun o p q r s t u v w x=>C0 89 [i7,z8,o,p,q,r,s] (w9 fun y a0 b0 c0 d0 f0 g0 h0 j0=>Y 54 [y,a0,b0,c0,d0,(.rows [[t,u,v,w,x]])]))) (fun j k l m n=>Q5 71 [z15,j,k,l,m,n] (fun o p q r s=>C0 161 [o,p,q,r,s] (w11 fun t u v w x y a0 b0 c0 d0 f0=>C0 89 [i7,z8,t,u,v,w,x] (w9 fun g0 h0 j0 k0 l0 m0 n0 o0 p0=>Y 55 [g0,h0,j0,k0,l0,(.rows [[y,a0,b0,c0,d0,f0]])]))) (fun o p q r s=>Q5 71 [z16,o,p,q,r,s] (fun t u v w x=>C0 162 [t,u,v,w,x] (w13 fun y a0 b0 c0 d0 f0 g0 h0 j0 k0 l0 m0 n0=>C0 89 [i7,z8,y,a0,b0,c0,d0] (w9 fun o0 p0 q0 r0 s0 t0 u0 x0 y0=>Y 56 [o0,p0,q0,r0,s0,(.rows [[f0,g0,h0,j0,k0,l0,m0,n0]])]))) (fun t u v w x=>C0 89 [i6,z21,t,u,v,w,x] (w9 fun y a0 b0 c0 d0 f0 g0 h0 j0=>C0 163 [y,a0,b0,c0,d0] (w18 fun k0 l0 m0 n0 o0 p0 q0 r0 s0 t0 u0 x0 y0 a1 b1 c1 d1 e1=>C0 89 [i7,z8,k0,l0,m0,n0,o0] (w9 fun f1 g1 h1 j1 k1 l1 m1 n1 o1=>Y 57 [f1,g1,h1,j1,k1,(.rows [[p0,q0,r0,s0,t0,u0,x0,y0,a1,b1,c1,d1,e1]])]))))))) (O0 [a,b,c,d,e,nS,nS,nS,nS,nS,nS,nS,nS])))) (O0 [a,b,c,d,e,nS,nS,nS,nS,nS,nS,nS,nS])
def g7b0b(a b c d e f:PV):T:=E3 d i0 (C0 70 [a,b,c,d,e] (ms [a,b,c,d,e] (w4 fun g h i j=>N3 g i0 (Q5 71 [z14,a,b,c,d,e] (fun k l m n o=>C0 160 [k,l,m,n,o] (w10 fun p q r s t u v w x y=>P 23 f (.rows [[u,v,w,x,y]]) fun a0=>C0 89 [i7,z8,p,q,r,s,t] (w9 fun b0 c0 d0 f0 g0 h0 j0 k0 l0=>Y 54 [b0,c0,d0,f0,g0,a0]))) (fun k l m n o=>Q5 71 [z15,k,l,m,n,o] (fun p q r s t=>C0 161 [p,q,r,s,t] (w11 fun u v w x y a0 b0 c0 d0 f0 g0=>C0 89 [i7,z8,u,v,w,x,y] (w9 fun h0 j0 k0 l0 m0 n0 o0 p0 q0=>Y 58 [h0,j0,k0,l0,m0,f,(.rows [[a0,b0,c0,d0,f0,g0]])]))) (fun p q r s t=>Q5 71 [z16,p,q,r,s,t] (fun u v w x y=>C0 162 [u,v,w,x,y] (w13 fun a0 b0 c0 d0 f0 g0 h0 j0 k0 l0 m0 n0 o0=>C0 89 [i7,z8,a0,b0,c0,d0,f0] (w9 fun p0 q0 r0 s0 t0 u0 x0 y0 a1=>Y 59 [p0,q0,r0,s0,t0,f,(.rows [[g0,h0,j0,k0,l0,m0,n0,o0]])]))) (fun u v w x y=>C0 89 [i6,z21,u,v,w,x,y] (w9 fun a0 b0 c0 d0 f0 g0 h0 j0 k0=>C0 163 [a0,b0,c0,d0,f0] (w18 fun l0 m0 n0 o0 p0 q0 r0 s0 t0 u0 x0 y0 a1 b1 c1 d1 e1 f1=>C0 89 [i7,z8,l0,m0,n0,o0,p0] (w9 fun g1 h1 j1 k1 l1 m1 n1 o1 p1=>Y 60 [g1,h1,j1,k1,l1,f,(.rows [[q0,r0,s0,t0,u0,x0,y0,a1,b1,c1,d1,e1,f1]])]))))))) (O 1 [a,b,c,d,e,f,nS,nS,nS,nS,nS,nS,nS])))) (O 1 [a,b,c,d,e,f,nS,nS,nS,nS,nS,nS,nS])
def g7b0c(a b c d e f:PV):T:=E3 d i0 (C0 70 [a,b,c,d,e] (ms [a,b,c,d,e] (w4 fun g h i j=>N3 g i0 (Q5 71 [z14,a,b,c,d,e] (fun k l m n o=>C0 160 [k,l,m,n,o] (w10 fun p q r s t u v w x y=>C0 89 [i7,z8,p,q,r,s,t] (w9 fun a0 b0 c0 d0 f0 g0 h0 j0 k0=>Y 58 [a0,b0,c0,d0,f0,(.rows [[u,v,w,x,y]]),f]))) (fun k l m n o=>Q5 71 [z15,k,l,m,n,o] (fun p q r s t=>C0 161 [p,q,r,s,t] (w11 fun u v w x y a0 b0 c0 d0 f0 g0=>P 24 f (.rows [[a0,b0,c0,d0,f0,g0]]) fun h0=>C0 89 [i7,z8,u,v,w,x,y] (w9 fun j0 k0 l0 m0 n0 o0 p0 q0 r0=>Y 55 [j0,k0,l0,m0,n0,h0]))) (fun p q r s t=>Q5 71 [z16,p,q,r,s,t] (fun u v w x y=>C0 162 [u,v,w,x,y] (w13 fun a0 b0 c0 d0 f0 g0 h0 j0 k0 l0 m0 n0 o0=>C0 89 [i7,z8,a0,b0,c0,d0,f0] (w9 fun p0 q0 r0 s0 t0 u0 x0 y0 a1=>Y 61 [p0,q0,r0,s0,t0,f,(.rows [[g0,h0,j0,k0,l0,m0,n0,o0]])]))) (fun u v w x y=>C0 89 [i6,z21,u,v,w,x,y] (w9 fun a0 b0 c0 d0 f0 g0 h0 j0 k0=>C0 163 [a0,b0,c0,d0,f0] (w18 fun l0 m0 n0 o0 p0 q0 r0 s0 t0 u0 x0 y0 a1 b1 c1 d1 e1 f1=>C0 89 [i7,z8,l0,m0,n0,o0,p0] (w9 fun g1 h1 j1 k1 l1 m1 n1 o1 p1=>Y 62 [g1,h1,j1,k1,l1,f,(.rows [[q0,r0,s0,t0,u0,x0,y0,a1,b1,c1,d1,e1,f1]])]))))))) (O 2 [a,b,c,d,e,nS,f,nS,nS,nS,nS,nS,nS])))) (O 2 [a,b,c,d,e,nS,f,nS,nS,nS,nS,nS,nS])
def g7b0d(a b c d e f:PV):T:=E3 d i0 (C0 70 [a,b,c,d,e] (ms [a,b,c,d,e] (w4 fun g h i j=>N3 g i0 (Q5 71 [z14,a,b,c,d,e] (fun k l m n o=>C0 160 [k,l,m,n,o] (w10 fun p q r s t u v w x y=>C0 89 [i7,z8,p,q,r,s,t] (w9 fun a0 b0 c0 d0 f0 g0 h0 j0 k0=>Y 59 [a0,b0,c0,d0,f0,(.rows [[u,v,w,x,y]]),f]))) (fun k l m n o=>Q5 71 [z15,k,l,m,n,o] (fun p q r s t=>C0 161 [p,q,r,s,t] (w11 fun u v w x y a0 b0 c0 d0 f0 g0=>C0 89 [i7,z8,u,v,w,x,y] (w9 fun h0 j0 k0 l0 m0 n0 o0 p0 q0=>Y 61 [h0,j0,k0,l0,m0,(.rows [[a0,b0,c0,d0,f0,g0]]),f]))) (fun p q r s t=>Q5 71 [z16,p,q,r,s,t] (fun u v w x y=>C0 162 [u,v,w,x,y] (w13 fun a0 b0 c0 d0 f0 g0 h0 j0 k0 l0 m0 n0 o0=>P 25 f (.rows [[g0,h0,j0,k0,l0,m0,n0,o0]]) fun p0=>C0 89 [i7,z8,a0,b0,c0,d0,f0] (w9 fun q0 r0 s0 t0 u0 x0 y0 a1 b1=>Y 56 [q0,r0,s0,t0,u0,p0]))) (fun u v w x y=>C0 89 [i6,z21,u,v,w,x,y] (w9 fun a0 b0 c0 d0 f0 g0 h0 j0 k0=>C0 163 [a0,b0,c0,d0,f0] (w18 fun l0 m0 n0 o0 p0 q0 r0 s0 t0 u0 x0 y0 a1 b1 c1 d1 e1 f1=>C0 89 [i7,z8,l0,m0,n0,o0,p0] (w9 fun g1 h1 j1 k1 l1 m1 n1 o1 p1=>Y 63 [g1,h1,j1,k1,l1,f,(.rows [[q0,r0,s0,t0,u0,x0,y0,a1,b1,c1,d1,e1,f1]])]))))))) (O 3 [a,b,c,d,e,nS,nS,f,nS,nS,nS,nS,nS])))) (O 3 [a,b,c,d,e,nS,nS,f,nS,nS,nS,nS,nS])
def g7b0e(a b c d e f:PV):T:=E3 d i0 (C0 70 [a,b,c,d,e] (ms [a,b,c,d,e] (w4 fun g h i j=>N3 g i0 (Q5 71 [z14,a,b,c,d,e] (fun k l m n o=>C0 160 [k,l,m,n,o] (w10 fun p q r s t u v w x y=>C0 89 [i7,z8,p,q,r,s,t] (w9 fun a0 b0 c0 d0 f0 g0 h0 j0 k0=>Y 60 [a0,b0,c0,d0,f0,(.rows [[u,v,w,x,y]]),f]))) (fun k l m n o=>Q5 71 [z15,k,l,m,n,o] (fun p q r s t=>C0 161 [p,q,r,s,t] (w11 fun u v w x y a0 b0 c0 d0 f0 g0=>C0 89 [i7,z8,u,v,w,x,y] (w9 fun h0 j0 k0 l0 m0 n0 o0 p0 q0=>Y 62 [h0,j0,k0,l0,m0,(.rows [[a0,b0,c0,d0,f0,g0]]),f]))) (fun p q r s t=>Q5 71 [z16,p,q,r,s,t] (fun u v w x y=>C0 162 [u,v,w,x,y] (w13 fun a0 b0 c0 d0 f0 g0 h0 j0 k0 l0 m0 n0 o0=>C0 89 [i7,z8,a0,b0,c0,d0,f0] (w9 fun p0 q0 r0 s0 t0 u0 x0 y0 a1=>Y 63 [p0,q0,r0,s0,t0,(.rows [[g0,h0,j0,k0,l0,m0,n0,o0]]),f]))) (fun u v w x y=>C0 89 [i6,z21,u,v,w,x,y] (w9 fun a0 b0 c0 d0 f0 g0 h0 j0 k0=>C0 163 [a0,b0,c0,d0,f0] (w18 fun l0 m0 n0 o0 p0 q0 r0 s0 t0 u0 x0 y0 a1 b1 c1 d1 e1 f1=>P 26 f (.rows [[q0,r0,s0,t0,u0,x0,y0,a1,b1,c1,d1,e1,f1]]) fun g1=>C0 89 [i7,z8,l0,m0,n0,o0,p0] (w9 fun h1 j1 k1 l1 m1 n1 o1 p1 q1=>Y 57 [h1,j1,k1,l1,m1,g1]))))))) (O 4 [a,b,c,d,e,nS,nS,nS,f,nS,nS,nS,nS])))) (O 4 [a,b,c,d,e,nS,nS,nS,f,nS,nS,nS,nS])
def g7b0f(a b c d e f g:PV):T:=E3 d i0 (C0 70 [a,b,c,d,e] (ms [a,b,c,d,e] (w4 fun h i j k=>N3 h i0 (Q5 71 [z14,a,b,c,d,e] (fun l m n o p=>C0 160 [l,m,n,o,p] (w10 fun q r s t u v w x y a0=>P 23 f (.rows [[v,w,x,y,a0]]) fun b0=>C0 89 [i7,z8,q,r,s,t,u] (w9 fun c0 d0 f0 g0 h0 j0 k0 l0 m0=>Y 58 [c0,d0,f0,g0,h0,b0,g]))) (fun l m n o p=>Q5 71 [z15,l,m,n,o,p] (fun q r s t u=>C0 161 [q,r,s,t,u] (w11 fun v w x y a0 b0 c0 d0 f0 g0 h0=>P 24 g (.rows [[b0,c0,d0,f0,g0,h0]]) fun j0=>C0 89 [i7,z8,v,w,x,y,a0] (w9 fun k0 l0 m0 n0 o0 p0 q0 r0 s0=>Y 58 [k0,l0,m0,n0,o0,f,j0]))) (fun q r s t u=>Q5 71 [z16,q,r,s,t,u] (fun v w x y a0=>C0 162 [v,w,x,y,a0] (w13 fun b0 c0 d0 f0 g0 h0 j0 k0 l0 m0 n0 o0 p0=>C0 89 [i7,z8,b0,c0,d0,f0,g0] (w9 fun q0 r0 s0 t0 u0 x0 y0 a1 b1=>Y 64 [q0,r0,s0,t0,u0,f,g,(.rows [[h0,j0,k0,l0,m0,n0,o0,p0]])]))) (fun v w x y a0=>C0 89 [i6,z21,v,w,x,y,a0] (w9 fun b0 c0 d0 f0 g0 h0 j0 k0 l0=>C0 163 [b0,c0,d0,f0,g0] (w18 fun m0 n0 o0 p0 q0 r0 s0 t0 u0 x0 y0 a1 b1 c1 d1 e1 f1 g1=>C0 89 [i7,z8,m0,n0,o0,p0,q0] (w9 fun h1 j1 k1 l1 m1 n1 o1 p1 q1=>Y 65 [h1,j1,k1,l1,m1,f,g,(.rows [[r0,s0,t0,u0,x0,y0,a1,b1,c1,d1,e1,f1,g1]])]))))))) (O 5 [a,b,c,d,e,f,g,nS,nS,nS,nS,nS,nS])))) (O 5 [a,b,c,d,e,f,g,nS,nS,nS,nS,nS,nS])
def g7b0g(a b c d e f g:PV):T:=E3 d i0 (C0 70 [a,b,c,d,e] (ms [a,b,c,d,e] (w4 fun h i j k=>N3 h i0 (Q5 71 [z14,a,b,c,d,e] (fun l m n o p=>C0 160 [l,m,n,o,p] (w10 fun q r s t u v w x y a0=>P 23 f (.rows [[v,w,x,y,a0]]) fun b0=>C0 89 [i7,z8,q,r,s,t,u] (w9 fun c0 d0 f0 g0 h0 j0 k0 l0 m0=>Y 59 [c0,d0,f0,g0,h0,b0,g]))) (fun l m n o p=>Q5 71 [z15,l,m,n,o,p] (fun q r s t u=>C0 161 [q,r,s,t,u] (w11 fun v w x y a0 b0 c0 d0 f0 g0 h0=>C0 89 [i7,z8,v,w,x,y,a0] (w9 fun j0 k0 l0 m0 n0 o0 p0 q0 r0=>Y 64 [j0,k0,l0,m0,n0,f,(.rows [[b0,c0,d0,f0,g0,h0]]),g]))) (fun q r s t u=>Q5 71 [z16,q,r,s,t,u] (fun v w x y a0=>C0 162 [v,w,x,y,a0] (w13 fun b0 c0 d0 f0 g0 h0 j0 k0 l0 m0 n0 o0 p0=>P 25 g (.rows [[h0,j0,k0,l0,m0,n0,o0,p0]]) fun q0=>C0 89 [i7,z8,b0,c0,d0,f0,g0] (w9 fun r0 s0 t0 u0 x0 y0 a1 b1 c1=>Y 59 [r0,s0,t0,u0,x0,f,q0]))) (fun v w x y a0=>C0 89 [i6,z21,v,w,x,y,a0] (w9 fun b0 c0 d0 f0 g0 h0 j0 k0 l0=>C0 163 [b0,c0,d0,f0,g0] (w18 fun m0 n0 o0 p0 q0 r0 s0 t0 u0 x0 y0 a1 b1 c1 d1 e1 f1 g1=>C0 89 [i7,z8,m0,n0,o0,p0,q0] (w9 fun h1 j1 k1 l1 m1 n1 o1 p1 q1=>Y 66 [h1,j1,k1,l1,m1,f,g,(.rows [[r0,s0,t0,u0,x0,y0,a1,b1,c1,d1,e1,f1,g1]])]))))))) (O 6 [a,b,c,d,e,f,nS,g,nS,nS,nS,nS,nS])))) (O 6 [a,b,c,d,e,f,nS,g,nS,nS,nS,nS,nS])
def g7b0h(a b c d e f g:PV):T:=E3 d i0 (C0 70 [a,b,c,d,e] (ms [a,b,c,d,e] (w4 fun h i j k=>N3 h i0 (Q5 71 [z14,a,b,c,d,e] (fun l m n o p=>C0 160 [l,m,n,o,p] (w10 fun q r s t u v w x y a0=>P 23 f (.rows [[v,w,x,y,a0]]) fun b0=>C0 89 [i7,z8,q,r,s,t,u] (w9 fun c0 d0 f0 g0 h0 j0 k0 l0 m0=>Y 60 [c0,d0,f0,g0,h0,b0,g]))) (fun l m n o p=>Q5 71 [z15,l,m,n,o,p] (fun q r s t u=>C0 161 [q,r,s,t,u] (w11 fun v w x y a0 b0 c0 d0 f0 g0 h0=>C0 89 [i7,z8,v,w,x,y,a0] (w9 fun j0 k0 l0 m0 n0 o0 p0 q0 r0=>Y 65 [j0,k0,l0,m0,n0,f,(.rows [[b0,c0,d0,f0,g0,h0]]),g]))) (fun q r s t u=>Q5 71 [z16,q,r,s,t,u] (fun v w x y a0=>C0 162 [v,w,x,y,a0] (w13 fun b0 c0 d0 f0 g0 h0 j0 k0 l0 m0 n0 o0 p0=>C0 89 [i7,z8,b0,c0,d0,f0,g0] (w9 fun q0 r0 s0 t0 u0 x0 y0 a1 b1=>Y 66 [q0,r0,s0,t0,u0,f,(.rows [[h0,j0,k0,l0,m0,n0,o0,p0]]),g]))) (fun v w x y a0=>C0 89 [i6,z21,v,w,x,y,a0] (w9 fun b0 c0 d0 f0 g0 h0 j0 k0 l0=>C0 163 [b0,c0,d0,f0,g0] (w18 fun m0 n0 o0 p0 q0 r0 s0 t0 u0 x0 y0 a1 b1 c1 d1 e1 f1 g1=>P 26 g (.rows [[r0,s0,t0,u0,x0,y0,a1,b1,c1,d1,e1,f1,g1]]) fun h1=>C0 89 [i7,z8,m0,n0,o0,p0,q0] (w9 fun j1 k1 l1 m1 n1 o1 p1 q1 r1=>Y 60 [j1,k1,l1,m1,n1,f,h1]))))))) (O 7 [a,b,c,d,e,f,nS,nS,g,nS,nS,nS,nS])))) (O 7 [a,b,c,d,e,f,nS,nS,g,nS,nS,nS,nS])
def g7b0i(a b c d e f g:PV):T:=E3 d i0 (C0 70 [a,b,c,d,e] (ms [a,b,c,d,e] (w4 fun h i j k=>N3 h i0 (Q5 71 [z14,a,b,c,d,e] (fun l m n o p=>C0 160 [l,m,n,o,p] (w10 fun q r s t u v w x y a0=>C0 89 [i7,z8,q,r,s,t,u] (w9 fun b0 c0 d0 f0 g0 h0 j0 k0 l0=>Y 64 [b0,c0,d0,f0,g0,(.rows [[v,w,x,y,a0]]),f,g]))) (fun l m n o p=>Q5 71 [z15,l,m,n,o,p] (fun q r s t u=>C0 161 [q,r,s,t,u] (w11 fun v w x y a0 b0 c0 d0 f0 g0 h0=>P 24 f (.rows [[b0,c0,d0,f0,g0,h0]]) fun j0=>C0 89 [i7,z8,v,w,x,y,a0] (w9 fun k0 l0 m0 n0 o0 p0 q0 r0 s0=>Y 61 [k0,l0,m0,n0,o0,j0,g]))) (fun q r s t u=>Q5 71 [z16,q,r,s,t,u] (fun v w x y a0=>C0 162 [v,w,x,y,a0] (w13 fun b0 c0 d0 f0 g0 h0 j0 k0 l0 m0 n0 o0 p0=>P 25 g (.rows [[h0,j0,k0,l0,m0,n0,o0,p0]]) fun q0=>C0 89 [i7,z8,b0,c0,d0,f0,g0] (w9 fun r0 s0 t0 u0 x0 y0 a1 b1 c1=>Y 61 [r0,s0,t0,u0,x0,f,q0]))) (fun v w x y a0=>C0 89 [i6,z21,v,w,x,y,a0] (w9 fun b0 c0 d0 f0 g0 h0 j0 k0 l0=>C0 163 [b0,c0,d0,f0,g0] (w18 fun m0 n0 o0 p0 q0 r0 s0 t0 u0 x0 y0 a1 b1 c1 d1 e1 f1 g1=>C0 89 [i7,z8,m0,n0,o0,p0,q0] (w9 fun h1 j1 k1 l1 m1 n1 o1 p1 q1=>Y 67 [h1,j1,k1,l1,m1,f,g,(.rows [[r0,s0,t0,u0,x0,y0,a1,b1,c1,d1,e1,f1,g1]])]))))))) (O 8 [a,b,c,d,e,nS,f,g,nS,nS,nS,nS,nS])))) (O 8 [a,b,c,d,e,nS,f,g,nS,nS,nS,nS,nS])
def g7b0j(a b c d e f g:PV):T:=E3 d i0 (C0 70 [a,b,c,d,e] (ms [a,b,c,d,e] (w4 fun h i j k=>N3 h i0 (Q5 71 [z14,a,b,c,d,e] (fun l m n o p=>C0 160 [l,m,n,o,p] (w10 fun q r s t u v w x y a0=>C0 89 [i7,z8,q,r,s,t,u] (w9 fun b0 c0 d0 f0 g0 h0 j0 k0 l0=>Y 65 [b0,c0,d0,f0,g0,(.rows [[v,w,x,y,a0]]),f,g]))) (fun l m n o p=>Q5 71 [z15,l,m,n,o,p] (fun q r s t u=>C0 161 [q,r,s,t,u] (w11 fun v w x y a0 b0 c0 d0 f0 g0 h0=>P 24 f (.rows [[b0,c0,d0,f0,g0,h0]]) fun j0=>C0 89 [i7,z8,v,w,x,y,a0] (w9 fun k0 l0 m0 n0 o0 p0 q0 r0 s0=>Y 62 [k0,l0,m0,n0,o0,j0,g]))) (fun q r s t u=>Q5 71 [z16,q,r,s,t,u] (fun v w x y a0=>C0 162 [v,w,x,y,a0] (w13 fun b0 c0 d0 f0 g0 h0 j0 k0 l0 m0 n0 o0 p0=>C0 89 [i7,z8,b0,c0,d0,f0,g0] (w9 fun q0 r0 s0 t0 u0 x0 y0 a1 b1=>Y 67 [q0,r0,s0,t0,u0,f,(.rows [[h0,j0,k0,l0,m0,n0,o0,p0]]),g]))) (fun v w x y a0=>C0 89 [i6,z21,v,w,x,y,a0] (w9 fun b0 c0 d0 f0 g0 h0 j0 k0 l0=>C0 163 [b0,c0,d0,f0,g0] (w18 fun m0 n0 o0 p0 q0 r0 s0 t0 u0 x0 y0 a1 b1 c1 d1 e1 f1 g1=>P 26 g (.rows [[r0,s0,t0,u0,x0,y0,a1,b1,c1,d1,e1,f1,g1]]) fun h1=>C0 89 [i7,z8,m0,n0,o0,p0,q0] (w9 fun j1 k1 l1 m1 n1 o1 p1 q1 r1=>Y 62 [j1,k1,l1,m1,n1,f,h1]))))))) (O 9 [a,b,c,d,e,nS,f,nS,g,nS,nS,nS,nS])))) (O 9 [a,b,c,d,e,nS,f,nS,g,nS,nS,nS,nS])
def g7b0k(a b c d e f g:PV):T:=E3 d i0 (C0 70 [a,b,c,d,e] (ms [a,b,c,d,e] (w4 fun h i j k=>N3 h i0 (Q5 71 [z14,a,b,c,d,e] (fun l m n o p=>C0 160 [l,m,n,o,p] (w10 fun q r s t u v w x y a0=>C0 89 [i7,z8,q,r,s,t,u] (w9 fun b0 c0 d0 f0 g0 h0 j0 k0 l0=>Y 66 [b0,c0,d0,f0,g0,(.rows [[v,w,x,y,a0]]),f,g]))) (fun l m n o p=>Q5 71 [z15,l,m,n,o,p] (fun q r s t u=>C0 161 [q,r,s,t,u] (w11 fun v w x y a0 b0 c0 d0 f0 g0 h0=>C0 89 [i7,z8,v,w,x,y,a0] (w9 fun j0 k0 l0 m0 n0 o0 p0 q0 r0=>Y 67 [j0,k0,l0,m0,n0,(.rows [[b0,c0,d0,f0,g0,h0]]),f,g]))) (fun q r s t u=>Q5 71 [z16,q,r,s,t,u] (fun v w x y a0=>C0 162 [v,w,x,y,a0] (w13 fun b0 c0 d0 f0 g0 h0 j0 k0 l0 m0 n0 o0 p0=>P 25 f (.rows [[h0,j0,k0,l0,m0,n0,o0,p0]]) fun q0=>C0 89 [i7,z8,b0,c0,d0,f0,g0] (w9 fun r0 s0 t0 u0 x0 y0 a1 b1 c1=>Y 63 [r0,s0,t0,u0,x0,q0,g]))) (fun v w x y a0=>C0 89 [i6,z21,v,w,x,y,a0] (w9 fun b0 c0 d0 f0 g0 h0 j0 k0 l0=>C0 163 [b0,c0,d0,f0,g0] (w18 fun m0 n0 o0 p0 q0 r0 s0 t0 u0 x0 y0 a1 b1 c1 d1 e1 f1 g1=>P 26 g (.rows [[r0,s0,t0,u0,x0,y0,a1,b1,c1,d1,e1,f1,g1]]) fun h1=>C0 89 [i7,z8,m0,n0,o0,p0,q0] (w9 fun j1 k1 l1 m1 n1 o1 p1 q1 r1=>Y 63 [j1,k1,l1,m1,n1,f,h1]))))))) (O 10 [a,b,c,d,e,nS,nS,f,g,nS,nS,nS,nS])))) (O 10 [a,b,c,d,e,nS,nS,f,g,nS,nS,nS,nS])
def g7b0l(a b c d e f g h:PV):T:=E3 d i0 (C0 70 [a,b,c,d,e] (ms [a,b,c,d,e] (w4 fun i j k l=>N3 i i0 (Q5 71 [z14,a,b,c,d,e] (fun m n o p q=>C0 160 [m,n,o,p,q] (w10 fun r s t u v w x y a0 b0=>P 23 f (.rows [[w,x,y,a0,b0]]) fun c0=>C0 89 [i7,z8,r,s,t,u,v] (w9 fun d0 f0 g0 h0 j0 k0 l0 m0 n0=>Y 64 [d0,f0,g0,h0,j0,c0,g,h]))) (fun m n o p q=>Q5 71 [z15,m,n,o,p,q] (fun r s t u v=>C0 161 [r,s,t,u,v] (w11 fun w x y a0 b0 c0 d0 f0 g0 h0 j0=>P 24 g (.rows [[c0,d0,f0,g0,h0,j0]]) fun k0=>C0 89 [i7,z8,w,x,y,a0,b0] (w9 fun l0 m0 n0 o0 p0 q0 r0 s0 t0=>Y 64 [l0,m0,n0,o0,p0,f,k0,h]))) (fun r s t u v=>Q5 71 [z16,r,s,t,u,v] (fun w x y a0 b0=>C0 162 [w,x,y,a0,b0] (w13 fun c0 d0 f0 g0 h0 j0 k0 l0 m0 n0 o0 p0 q0=>P 25 h (.rows [[j0,k0,l0,m0,n0,o0,p0,q0]]) fun r0=>C0 89 [i7,z8,c0,d0,f0,g0,h0] (w9 fun s0 t0 u0 x0 y0 a1 b1 c1 d1=>Y 64 [s0,t0,u0,x0,y0,f,g,r0]))) (fun w x y a0 b0=>C0 89 [i6,z21,w,x,y,a0,b0] (w9 fun c0 d0 f0 g0 h0 j0 k0 l0 m0=>C0 163 [c0,d0,f0,g0,h0] (w18 fun n0 o0 p0 q0 r0 s0 t0 u0 x0 y0 a1 b1 c1 d1 e1 f1 g1 h1=>C0 89 [i7,z8,n0,o0,p0,q0,r0] (w9 fun j1 k1 l1 m1 n1 o1 p1 q1 r1=>Y 68 [j1,k1,l1,m1,n1,f,g,h,(.rows [[s0,t0,u0,x0,y0,a1,b1,c1,d1,e1,f1,g1,h1]])]))))))) (O 11 [a,b,c,d,e,f,g,h,nS,nS,nS,nS,nS])))) (O 11 [a,b,c,d,e,f,g,h,nS,nS,nS,nS,nS])
def g7b0m(a b c d e f g h:PV):T:=E3 d i0 (C0 70 [a,b,c,d,e] (ms [a,b,c,d,e] (w4 fun i j k l=>N3 i i0 (Q5 71 [z14,a,b,c,d,e] (fun m n o p q=>C0 160 [m,n,o,p,q] (w10 fun r s t u v w x y a0 b0=>P 23 f (.rows [[w,x,y,a0,b0]]) fun c0=>C0 89 [i7,z8,r,s,t,u,v] (w9 fun d0 f0 g0 h0 j0 k0 l0 m0 n0=>Y 65 [d0,f0,g0,h0,j0,c0,g,h]))) (fun m n o p q=>Q5 71 [z15,m,n,o,p,q] (fun r s t u v=>C0 161 [r,s,t,u,v] (w11 fun w x y a0 b0 c0 d0 f0 g0 h0 j0=>P 24 g (.rows [[c0,d0,f0,g0,h0,j0]]) fun k0=>C0 89 [i7,z8,w,x,y,a0,b0] (w9 fun l0 m0 n0 o0 p0 q0 r0 s0 t0=>Y 65 [l0,m0,n0,o0,p0,f,k0,h]))) (fun r s t u v=>Q5 71 [z16,r,s,t,u,v] (fun w x y a0 b0=>C0 162 [w,x,y,a0,b0] (w13 fun c0 d0 f0 g0 h0 j0 k0 l0 m0 n0 o0 p0 q0=>C0 89 [i7,z8,c0,d0,f0,g0,h0] (w9 fun r0 s0 t0 u0 x0 y0 a1 b1 c1=>Y 68 [r0,s0,t0,u0,x0,f,g,(.rows [[j0,k0,l0,m0,n0,o0,p0,q0]]),h]))) (fun w x y a0 b0=>C0 89 [i6,z21,w,x,y,a0,b0] (w9 fun c0 d0 f0 g0 h0 j0 k0 l0 m0=>C0 163 [c0,d0,f0,g0,h0] (w18 fun n0 o0 p0 q0 r0 s0 t0 u0 x0 y0 a1 b1 c1 d1 e1 f1 g1 h1=>P 26 h (.rows [[s0,t0,u0,x0,y0,a1,b1,c1,d1,e1,f1,g1,h1]]) fun j1=>C0 89 [i7,z8,n0,o0,p0,q0,r0] (w9 fun k1 l1 m1 n1 o1 p1 q1 r1 s1=>Y 65 [k1,l1,m1,n1,o1,f,g,j1]))))))) (O 12 [a,b,c,d,e,f,g,nS,h,nS,nS,nS,nS])))) (O 12 [a,b,c,d,e,f,g,nS,h,nS,nS,nS,nS])
def g7b0n(a b c d e f g h:PV):T:=E3 d i0 (C0 70 [a,b,c,d,e] (ms [a,b,c,d,e] (w4 fun i j k l=>N3 i i0 (Q5 71 [z14,a,b,c,d,e] (fun m n o p q=>C0 160 [m,n,o,p,q] (w10 fun r s t u v w x y a0 b0=>P 23 f (.rows [[w,x,y,a0,b0]]) fun c0=>C0 89 [i7,z8,r,s,t,u,v] (w9 fun d0 f0 g0 h0 j0 k0 l0 m0 n0=>Y 66 [d0,f0,g0,h0,j0,c0,g,h]))) (fun m n o p q=>Q5 71 [z15,m,n,o,p,q] (fun r s t u v=>C0 161 [r,s,t,u,v] (w11 fun w x y a0 b0 c0 d0 f0 g0 h0 j0=>C0 89 [i7,z8,w,x,y,a0,b0] (w9 fun k0 l0 m0 n0 o0 p0 q0 r0 s0=>Y 68 [k0,l0,m0,n0,o0,f,(.rows [[c0,d0,f0,g0,h0,j0]]),g,h]))) (fun r s t u v=>Q5 71 [z16,r,s,t,u,v] (fun w x y a0 b0=>C0 162 [w,x,y,a0,b0] (w13 fun c0 d0 f0 g0 h0 j0 k0 l0 m0 n0 o0 p0 q0=>P 25 g (.rows [[j0,k0,l0,m0,n0,o0,p0,q0]]) fun r0=>C0 89 [i7,z8,c0,d0,f0,g0,h0] (w9 fun s0 t0 u0 x0 y0 a1 b1 c1 d1=>Y 66 [s0,t0,u0,x0,y0,f,r0,h]))) (fun w x y a0 b0=>C0 89 [i6,z21,w,x,y,a0,b0] (w9 fun c0 d0 f0 g0 h0 j0 k0 l0 m0=>C0 163 [c0,d0,f0,g0,h0] (w18 fun n0 o0 p0 q0 r0 s0 t0 u0 x0 y0 a1 b1 c1 d1 e1 f1 g1 h1=>P 26 h (.rows [[s0,t0,u0,x0,y0,a1,b1,c1,d1,e1,f1,g1,h1]]) fun j1=>C0 89 [i7,z8,n0,o0,p0,q0,r0] (w9 fun k1 l1 m1 n1 o1 p1 q1 r1 s1=>Y 66 [k1,l1,m1,n1,o1,f,g,j1]))))))) (O 13 [a,b,c,d,e,f,nS,g,h,nS,nS,nS,nS])))) (O 13 [a,b,c,d,e,f,nS,g,h,nS,nS,nS,nS])
def g7b0o(a b c d e f g h:PV):T:=E3 d i0 (C0 70 [a,b,c,d,e] (ms [a,b,c,d,e] (w4 fun i j k l=>N3 i i0 (Q5 71 [z14,a,b,c,d,e] (fun m n o p q=>C0 160 [m,n,o,p,q] (w10 fun r s t u v w x y a0 b0=>C0 89 [i7,z8,r,s,t,u,v] (w9 fun c0 d0 f0 g0 h0 j0 k0 l0 m0=>Y 68 [c0,d0,f0,g0,h0,(.rows [[w,x,y,a0,b0]]),f,g,h]))) (fun m n o p q=>Q5 71 [z15,m,n,o,p,q] (fun r s t u v=>C0 161 [r,s,t,u,v] (w11 fun w x y a0 b0 c0 d0 f0 g0 h0 j0=>P 24 f (.rows [[c0,d0,f0,g0,h0,j0]]) fun k0=>C0 89 [i7,z8,w,x,y,a0,b0] (w9 fun l0 m0 n0 o0 p0 q0 r0 s0 t0=>Y 67 [l0,m0,n0,o0,p0,k0,g,h]))) (fun r s t u v=>Q5 71 [z16,r,s,t,u,v] (fun w x y a0 b0=>C0 162 [w,x,y,a0,b0] (w13 fun c0 d0 f0 g0 h0 j0 k0 l0 m0 n0 o0 p0 q0=>P 25 g (.rows [[j0,k0,l0,m0,n0,o0,p0,q0]]) fun r0=>C0 89 [i7,z8,c0,d0,f0,g0,h0] (w9 fun s0 t0 u0 x0 y0 a1 b1 c1 d1=>Y 67 [s0,t0,u0,x0,y0,f,r0,h]))) (fun w x y a0 b0=>C0 89 [i6,z21,w,x,y,a0,b0] (w9 fun c0 d0 f0 g0 h0 j0 k0 l0 m0=>C0 163 [c0,d0,f0,g0,h0] (w18 fun n0 o0 p0 q0 r0 s0 t0 u0 x0 y0 a1 b1 c1 d1 e1 f1 g1 h1=>P 26 h (.rows [[s0,t0,u0,x0,y0,a1,b1,c1,d1,e1,f1,g1,h1]]) fun j1=>C0 89 [i7,z8,n0,o0,p0,q0,r0] (w9 fun k1 l1 m1 n1 o1 p1 q1 r1 s1=>Y 67 [k1,l1,m1,n1,o1,f,g,j1]))))))) (O 14 [a,b,c,d,e,nS,f,g,h,nS,nS,nS,nS])))) (O 14 [a,b,c,d,e,nS,f,g,h,nS,nS,nS,nS])
def g7b0p(a b c d e f g h i:PV):T:=E3 d i0 (C0 70 [a,b,c,d,e] (ms [a,b,c,d,e] (w4 fun j k l m=>N3 j i0 (Q5 71 [z14,a,b,c,d,e] (fun n o p q r=>C0 160 [n,o,p,q,r] (w10 fun s t u v w x y a0 b0 c0=>P 23 f (.rows [[x,y,a0,b0,c0]]) fun d0=>C0 89 [i7,z8,s,t,u,v,w] (w9 fun f0 g0 h0 j0 k0 l0 m0 n0 o0=>Y 68 [f0,g0,h0,j0,k0,d0,g,h,i]))) (fun n o p q r=>Q5 71 [z15,n,o,p,q,r] (fun s t u v w=>C0 161 [s,t,u,v,w] (w11 fun x y a0 b0 c0 d0 f0 g0 h0 j0 k0=>P 24 g (.rows [[d0,f0,g0,h0,j0,k0]]) fun l0=>C0 89 [i7,z8,x,y,a0,b0,c0] (w9 fun m0 n0 o0 p0 q0 r0 s0 t0 u0=>Y 68 [m0,n0,o0,p0,q0,f,l0,h,i]))) (fun s t u v w=>Q5 71 [z16,s,t,u,v,w] (fun x y a0 b0 c0=>C0 162 [x,y,a0,b0,c0] (w13 fun d0 f0 g0 h0 j0 k0 l0 m0 n0 o0 p0 q0 r0=>P 25 h (.rows [[k0,l0,m0,n0,o0,p0,q0,r0]]) fun s0=>C0 89 [i7,z8,d0,f0,g0,h0,j0] (w9 fun t0 u0 x0 y0 a1 b1 c1 d1 e1=>Y 68 [t0,u0,x0,y0,a1,f,g,s0,i]))) (fun x y a0 b0 c0=>C0 89 [i6,z21,x,y,a0,b0,c0] (w9 fun d0 f0 g0 h0 j0 k0 l0 m0 n0=>C0 163 [d0,f0,g0,h0,j0] (w18 fun o0 p0 q0 r0 s0 t0 u0 x0 y0 a1 b1 c1 d1 e1 f1 g1 h1 j1=>P 26 i (.rows [[t0,u0,x0,y0,a1,b1,c1,d1,e1,f1,g1,h1,j1]]) fun k1=>C0 89 [i7,z8,o0,p0,q0,r0,s0] (w9 fun l1 m1 n1 o1 p1 q1 r1 s1 t1=>Y 68 [l1,m1,n1,o1,p1,f,g,h,k1]))))))) (O 15 [a,b,c,d,e,f,g,h,i,nS,nS,nS,nS])))) (O 15 [a,b,c,d,e,f,g,h,i,nS,nS,nS,nS])
def g66a(a b c d e f g:PV):T:=E3 f i0 (O0 [c,d,e,a,b]) (O0 [c,d,e,f,g])
def g29a(a b c d e:PV):T:=N3 d i0 (O0 [a,b,c,d,e,i0,e0,i0,i0]) (L 65 a fun f=>H3 b f (O0 [a,b,c,d,e,i0,e0,i0,i0]) (X 65 a b (w4 fun g h i j=>O0 [a,b,c,d,e,g,h,i,j])))
def g30a(a b c d e f:PV):T:=D 104 [a,b,c,d,e,f] 0 0 (mz [b,c,d,e,f,bt] (A3 c i1 fun g=>O0 [b,g,d,e,f,bt])) (mz [b,c,d,e,f,bf] (O0 [b,c,d,e,f,bf]))
def g31a(a b c d e:PV):T:=C0 89 [i2,e0,a,b,c,d,e] (w9 fun f g h i j k l m n=>D 73 [f,g,h,i,j,l,n] 0 1 (v6 fun o p q r s t=>ms [nS,nS,nS] (v1 fun u=>mz [e0,nS,nS,nS,i0] (C0 89 [i7,z11,o,p,q,r,s] (w9 fun v w x y a0 b0 c0 d0 f0=>D 75 [v,w,x,y,a0,t,u] 0 1 (v6 fun g0 h0 j0 k0 l0 m0=>ms [nS,nS,nS] (v1 fun n0=>mz [e0,nS,nS,nS,i0] (Q5 71 [z20,g0,h0,j0,k0,l0] (fun o0 p0 q0 r0 s0=>C0 89 [i7,z5,o0,p0,q0,r0,s0] (w9 fun t0 u0 x0 y0 a1 b1 c1 d1 e1=>C0 164 [t0,u0,x0,y0,a1] (w6 fun f1 g1 h1 j1 k1 l1=>C0 89 [i7,z6,f1,g1,h1,j1,k1] (w9 fun m1 n1 o1 p1 q1 r1 s1 t1 u1=>O0 [m1,n1,o1,p1,q1,m0,nS,nS,l1,n0])))) (fun o0 p0 q0 r0 s0=>O0 [o0,p0,q0,r0,s0,m0,nS,nS,nS,n0])))) (v6 fun g0 h0 j0 k0 l0 m0=>ms [nS] (v1 fun n0=>ms [nS] (v1 fun o0=>mz [e0,nS,nS,nS,i0] (Q5 71 [z20,g0,h0,j0,k0,l0] (fun p0 q0 r0 s0 t0=>C0 89 [i7,z5,p0,q0,r0,s0,t0] (w9 fun u0 x0 y0 a1 b1 c1 d1 e1 f1=>C0 164 [u0,x0,y0,a1,b1] (w6 fun g1 h1 j1 k1 l1 m1=>C0 89 [i7,z6,g1,h1,j1,k1,l1] (w9 fun n1 o1 p1 q1 r1 s1 t1 u1 x1=>O 2 [n1,o1,p1,q1,r1,m0,nS,n0,m1,o0])))) (fun p0 q0 r0 s0 t0=>O 2 [p0,q0,r0,s0,t0,m0,nS,n0,nS,o0]))))))))) (v7 fun o p q r s t u=>ms [nS,nS] (v1 fun v=>mz [e0,nS,nS,nS,i0] (C0 89 [i7,z11,o,p,q,r,s] (w9 fun w x y a0 b0 c0 d0 f0 g0=>D 76 [w,x,y,a0,b0,t,u,v] 0 1 (v6 fun h0 j0 k0 l0 m0 n0=>ms [u,nS,nS] (v1 fun o0=>mz [e0,nS,nS,nS,i0] (Q5 71 [z20,h0,j0,k0,l0,m0] (fun p0 q0 r0 s0 t0=>C0 89 [i7,z5,p0,q0,r0,s0,t0] (w9 fun u0 x0 y0 a1 b1 c1 d1 e1 f1=>C0 164 [u0,x0,y0,a1,b1] (w6 fun g1 h1 j1 k1 l1 m1=>C0 89 [i7,z6,g1,h1,j1,k1,l1] (w9 fun n1 o1 p1 q1 r1 s1 t1 u1 x1=>O 4 [n1,o1,p1,q1,r1,n0,u,nS,m1,o0])))) (fun p0 q0 r0 s0 t0=>O 4 [p0,q0,r0,s0,t0,n0,u,nS,nS,o0])))) (v6 fun h0 j0 k0 l0 m0 n0=>ms [u] (v1 fun o0=>ms [nS] (v1 fun p0=>mz [e0,nS,nS,nS,i0] (Q5 71 [z20,h0,j0,k0,l0,m0] (fun q0 r0 s0 t0 u0=>C0 89 [i7,z5,q0,r0,s0,t0,u0] (w9 fun x0 y0 a1 b1 c1 d1 e1 f1 g1=>C0 164 [x0,y0,a1,b1,c1] (w6 fun h1 j1 k1 l1 m1 n1=>C0 89 [i7,z6,h1,j1,k1,l1,m1] (w9 fun o1 p1 q1 r1 s1 t1 u1 x1 y1=>O 6 [o1,p1,q1,r1,s1,n0,u,o0,n1,p0])))) (fun q0 r0 s0 t0 u0=>O 6 [q0,r0,s0,t0,u0,n0,u,o0,nS,p0]))))))))))
def g31ab0a(a b c d e f g:PV):T:=C0 70 [a,b,c,d,e] (ms [a,b,c,d,e] (w4 fun h i j k=>E3 h i1 (C0 89 [i1,e0,a,b,c,d,e] (w9 fun l m n o p q r s t=>Y 74 [l,m,n,o,p,f,(.rows [[r]]),g])) (O0 [a,b,c,d,e,f,nS,nS,nS,g,e0,nS,nS,nS,i0])))
def g31ab0b(a b c d e f g h:PV):T:=C0 70 [a,b,c,d,e] (ms [a,b,c,d,e] (w4 fun i j k l=>E3 i i1 (C0 89 [i1,e0,a,b,c,d,e] (w9 fun m n o p q r s t u=>P 52 g (.rows [[s]]) fun v=>Y 74 [m,n,o,p,q,f,v,h])) (O 1 [a,b,c,d,e,f,g,nS,nS,h,e0,nS,nS,nS,i0])))
def g31ab2a(a b c d e f g:PV):T:=E3 d i0 (C0 89 [i2,e0,a,b,c,d,e] (w9 fun h i j k l m n o p=>D 81 [h,i,j,k,l,n,p,f,g] 0 1 (v6 fun q r s t u v=>ms [nS] (v1 fun w=>mz [f,nS,nS,nS,g,e0,nS,nS,nS,i0] (Q5 71 [z12,q,r,s,t,u] (fun x y a0 b0 c0=>Y 77 [x,y,a0,b0,c0,f,(.rows [[v,nS,w]]),g]) (fun x y a0 b0 c0=>Y 78 [x,y,a0,b0,c0,f,(.rows [[v,nS,w]]),g])))) (v8 fun q r s t u v w x=>mz [f,nS,nS,nS,g,e0,nS,nS,nS,i0] (Q5 71 [z12,q,r,s,t,u] (fun y a0 b0 c0 d0=>Y 77 [y,a0,b0,c0,d0,f,(.rows [[v,w,x]]),g]) (fun y a0 b0 c0 d0=>Y 78 [y,a0,b0,c0,d0,f,(.rows [[v,w,x]]),g]))))) (O0 [a,b,c,d,e,f,nS,nS,nS,g,e0,nS,nS,nS,i0])
def g31ab2e(a b c d e f g h:PV):T:=E3 d i0 (C0 89 [i2,e0,a,b,c,d,e] (w9 fun i j k l m n o p q=>D 83 [i,j,k,l,m,o,q,f,g,h] 1 3 (v6 fun r s t u v w=>ms [nS] (v1 fun x=>mz [f,g,nS,nS,h,e0,nS,nS,nS,i0] (Q5 71 [z12,r,s,t,u,v] (fun y a0 b0 c0 d0=>Y 79 [y,a0,b0,c0,d0,f,g,(.rows [[w,nS,x]]),h]) (fun y a0 b0 c0 d0=>Y 80 [y,a0,b0,c0,d0,f,g,(.rows [[w,nS,x]]),h])))) (v8 fun r s t u v w x y=>mz [f,g,nS,nS,h,e0,nS,nS,nS,i0] (Q5 71 [z12,r,s,t,u,v] (fun a0 b0 c0 d0 f0=>Y 79 [a0,b0,c0,d0,f0,f,g,(.rows [[w,x,y]]),h]) (fun a0 b0 c0 d0 f0=>Y 80 [a0,b0,c0,d0,f0,f,g,(.rows [[w,x,y]]),h]))))) (O0 [a,b,c,d,e,f,g,nS,nS,h,e0,nS,nS,nS,i0])
def g31ab2i(a b c d e f g h:PV):T:=E3 d i0 (C0 89 [i2,e0,a,b,c,d,e] (w9 fun i j k l m n o p q=>D 82 [i,j,k,l,m,o,q,f,g,h] 0 2 (v6 fun r s t u v w=>ms [nS] (v1 fun x=>mz [f,nS,g,nS,h,e0,nS,nS,nS,i0] (P 71 g (.rows [[w,nS,x]]) fun y=>Q5 71 [z12,r,s,t,u,v] (fun a0 b0 c0 d0 f0=>Y 77 [a0,b0,c0,d0,f0,f,y,h]) (fun a0 b0 c0 d0 f0=>Y 78 [a0,b0,c0,d0,f0,f,y,h])))) (v8 fun r s t u v w x y=>mz [f,nS,g,nS,h,e0,nS,nS,nS,i0] (P 71 g (.rows [[w,x,y]]) fun a0=>Q5 71 [z12,r,s,t,u,v] (fun b0 c0 d0 f0 g0=>Y 77 [b0,c0,d0,f0,g0,f,a0,h]) (fun b0 c0 d0 f0 g0=>Y 78 [b0,c0,d0,f0,g0,f,a0,h]))))) (O 1 [a,b,c,d,e,f,nS,g,nS,h,e0,nS,nS,nS,i0])
def g31ab2j(a b c d e f g h:PV):T:=O 1 [a,b,c,d,e,f,nS,g,nS,h,e0,nS,nS,nS,i0]
def g31ab2q(a b c d e f g h i:PV):T:=E3 d i0 (C0 89 [i2,e0,a,b,c,d,e] (w9 fun j k l m n o p q r=>D 84 [j,k,l,m,n,p,r,f,g,h,i] 0 1 (v6 fun s t u v w x=>ms [nS] (v1 fun y=>mz [f,g,h,nS,i,e0,nS,nS,nS,i0] (P 71 h (.rows [[x,nS,y]]) fun a0=>Q5 71 [z12,s,t,u,v,w] (fun b0 c0 d0 f0 g0=>Y 79 [b0,c0,d0,f0,g0,f,g,a0,i]) (fun b0 c0 d0 f0 g0=>Y 80 [b0,c0,d0,f0,g0,f,g,a0,i])))) (v8 fun s t u v w x y a0=>mz [f,g,h,nS,i,e0,nS,nS,nS,i0] (P 71 h (.rows [[x,y,a0]]) fun b0=>Q5 71 [z12,s,t,u,v,w] (fun c0 d0 f0 g0 h0=>Y 79 [c0,d0,f0,g0,h0,f,g,b0,i]) (fun c0 d0 f0 g0 h0=>Y 80 [c0,d0,f0,g0,h0,f,g,b0,i]))))) (O 1 [a,b,c,d,e,f,g,h,nS,i,e0,nS,nS,nS,i0])
def g31ab2r(a b c d e f g h i:PV):T:=O 1 [a,b,c,d,e,f,g,h,nS,i,e0,nS,nS,nS,i0]
def g31ab4a(a b c d e f g h i:PV):T:=D 108 [i0,a,b,c,d,e] 0 0 (mz [a,b,c,d,e,bt] (C0 165 [a,b,c,d,e] (w9 fun j k l m n o p q r=>Y 85 [j,k,l,m,n,f,(.rows [[o,p,q,r]]),g,h,i]))) (mz [a,b,c,d,e,bf] (O0 [a,b,c,d,e,f,nS,g,h,nS,nS,nS,i,e0,nS,nS,nS,i0]))
def g31ab4c(a b c d e f g h i j:PV):T:=D 108 [i0,a,b,c,d,e] 0 0 (mz [a,b,c,d,e,bt] (C0 165 [a,b,c,d,e] (w9 fun k l m n o p q r s=>Y 86 [k,l,m,n,o,f,(.rows [[p,q,r,s]]),g,h,i,j]))) (mz [a,b,c,d,e,bf] (O0 [a,b,c,d,e,f,nS,g,h,nS,i,nS,j,e0,nS,nS,nS,i0]))
def g31ab4e(a b c d e f g h i j:PV):T:=D 108 [i0,a,b,c,d,e] 0 0 (mz [a,b,c,d,e,bt] (C0 165 [a,b,c,d,e] (w9 fun k l m n o p q r s=>Y 87 [k,l,m,n,o,f,(.rows [[p,q,r,s]]),g,h,i,j]))) (mz [a,b,c,d,e,bf] (O 1 [a,b,c,d,e,f,nS,g,h,i,nS,nS,j,e0,nS,nS,nS,i0]))
def g31ab4g(a b c d e f g h i j k:PV):T:=D 108 [i0,a,b,c,d,e] 0 0 (mz [a,b,c,d,e,bt] (C0 165 [a,b,c,d,e] (w9 fun l m n o p q r s t=>Y 88 [l,m,n,o,p,f,(.rows [[q,r,s,t]]),g,h,i,j,k]))) (mz [a,b,c,d,e,bf] (O0 [a,b,c,d,e,f,nS,g,h,i,j,nS,k,e0,nS,nS,nS,i0]))
def g31ab4i(a b c d e f g h i j:PV):T:=D 108 [i0,a,b,c,d,e] 0 0 (mz [a,b,c,d,e,bt] (C0 165 [a,b,c,d,e] (w9 fun k l m n o p q r s=>P 45 g (.rows [[p,q,r,s]]) fun t=>Y 85 [k,l,m,n,o,f,t,h,i,j]))) (mz [a,b,c,d,e,bf] (O 1 [a,b,c,d,e,f,g,h,i,nS,nS,nS,j,e0,nS,nS,nS,i0]))
def g31ab4k(a b c d e f g h i j k:PV):T:=D 108 [i0,a,b,c,d,e] 0 0 (mz [a,b,c,d,e,bt] (C0 165 [a,b,c,d,e] (w9 fun l m n o p q r s t=>P 45 g (.rows [[q,r,s,t]]) fun u=>Y 86 [l,m,n,o,p,f,u,h,i,j,k]))) (mz [a,b,c,d,e,bf] (O 2 [a,b,c,d,e,f,g,h,i,nS,j,nS,k,e0,nS,nS,nS,i0]))
def g31ab4m(a b c d e f g h i j k:PV):T:=D 108 [i0,a,b,c,d,e] 0 0 (mz [a,b,c,d,e,bt] (C0 165 [a,b,c,d,e] (w9 fun l m n o p q r s t=>P 45 g (.rows [[q,r,s,t]]) fun u=>Y 87 [l,m,n,o,p,f,u,h,i,j,k]))) (mz [a,b,c,d,e,bf] (O 3 [a,b,c,d,e,f,g,h,i,j,nS,nS,k,e0,nS,nS,nS,i0]))
def g31ab4o(a b c d e f g h i j k l:PV):T:=D 108 [i0,a,b,c,d,e] 0 0 (mz [a,b,c,d,e,bt] (C0 165 [a,b,c,d,e] (w9 fun m n o p q r s t u=>P 45 g (.rows [[r,s,t,u]]) fun v=>Y 88 [m,n,o,p,q,f,v,h,i,j,k,l]))) (mz [a,b,c,d,e,bf] (O 1 [a,b,c,d,e,f,g,h,i,j,k,nS,l,e0,nS,nS,nS,i0]))
def g34a(a b c d e f g:PV):T:=C0 70 [c,d,e,f,g] (ms [c,d,e,f,g] (w4 fun h i j k=>N3 f i0 (O0 [c,d,e,f,g,h,i,j,k]) (L3 a i6 (N3 h a (C0 69 [(iv 110),k,c,d,e,f,g] (w5 fun l m n o p=>O0 [l,m,n,o,p,i0,e0,i0,i0])) (H3 a i6 (L3 h i6 (C0 69 [(iv 110),k,c,d,e,f,g] (w5 fun l m n o p=>O0 [l,m,n,o,p,i0,e0,i0,i0])) (N9 i b (C0 69 [(iv 110),k,c,d,e,f,g] (w5 fun l m n o p=>O0 [l,m,n,o,p,i0,e0,i0,i0])) (A3 d i1 fun l=>O0 [c,l,e,f,g,h,i,j,k]))) (A3 d i1 fun l=>O0 [c,l,e,f,g,h,i,j,k]))) (H3 a i6 (L3 h i6 (C0 69 [(iv 110),k,c,d,e,f,g] (w5 fun l m n o p=>O0 [l,m,n,o,p,i0,e0,i0,i0])) (N9 i b (C0 69 [(iv 110),k,c,d,e,f,g] (w5 fun l m n o p=>O0 [l,m,n,o,p,i0,e0,i0,i0])) (A3 d i1 fun l=>O0 [c,l,e,f,g,h,i,j,k]))) (A3 d i1 fun l=>O0 [c,l,e,f,g,h,i,j,k])))))
def g32a(a b c d e:PV):T:=C0 89 [i2,e0,a,b,c,d,e] (w9 fun f g h i j k l m n=>C0 89 [i1,e0,f,g,h,i,j] (w9 fun o p q r s t u v w=>Q5 71 [z17,o,p,q,r,s] (fun x y a0 b0 c0=>C0 164 [x,y,a0,b0,c0] (w6 fun d0 f0 g0 h0 j0 k0=>C0 89 [i6,z18,d0,f0,g0,h0,j0] (w9 fun l0 m0 n0 o0 p0 q0 r0 s0 t0=>J (D 91 [l0,m0,n0,o0,p0,l,u,k0,n] 0 1 (v8 fun u0 x0 y0 a1 b1 c1 d1 e1=>ms [nS,nS] (v1 fun f1=>mz [e0,e0,nS,nS,nS,i0] (O0 [u0,x0,y0,a1,b1,c1,d1,e1,nS,nS,f1]))) (v8 fun u0 x0 y0 a1 b1 c1 d1 e1=>ms [nS] (v2 fun f1 g1=>mz [e0,e0,nS,nS,nS,i0] (O 1 [u0,x0,y0,a1,b1,c1,d1,e1,nS,f1,g1])))) (D 91 [l0,m0,n0,o0,p0,l,u,k0,n] 2 3 (v9 fun u0 x0 y0 a1 b1 c1 d1 e1 f1=>ms [nS] (v1 fun g1=>mz [e0,e0,nS,nS,nS,i0] (O 2 [u0,x0,y0,a1,b1,c1,d1,e1,f1,nS,g1]))) (v11 fun u0 x0 y0 a1 b1 c1 d1 e1 f1 g1 h1=>mz [e0,e0,nS,nS,nS,i0] (O 3 [u0,x0,y0,a1,b1,c1,d1,e1,f1,g1,h1])))))) (fun x y a0 b0 c0=>C0 89 [i6,z18,x,y,a0,b0,c0] (w9 fun d0 f0 g0 h0 j0 k0 l0 m0 n0=>J (D 91 [d0,f0,g0,h0,j0,l,u,nS,n] 0 1 (v7 fun o0 p0 q0 r0 s0 t0 u0=>ms [nS,nS,nS] (v1 fun x0=>mz [e0,e0,nS,nS,nS,i0] (O0 [o0,p0,q0,r0,s0,t0,u0,nS,nS,nS,x0]))) (v7 fun o0 p0 q0 r0 s0 t0 u0=>ms [nS,nS] (v2 fun x0 y0=>mz [e0,e0,nS,nS,nS,i0] (O 1 [o0,p0,q0,r0,s0,t0,u0,nS,nS,x0,y0])))) (D 91 [d0,f0,g0,h0,j0,l,u,nS,n] 2 3 (v7 fun o0 p0 q0 r0 s0 t0 u0=>ms [nS] (v1 fun x0=>ms [nS] (v1 fun y0=>mz [e0,e0,nS,nS,nS,i0] (O 2 [o0,p0,q0,r0,s0,t0,u0,nS,x0,nS,y0])))) (v7 fun o0 p0 q0 r0 s0 t0 u0=>ms [nS] (v3 fun x0 y0 a1=>mz [e0,e0,nS,nS,nS,i0] (O 3 [o0,p0,q0,r0,s0,t0,u0,nS,x0,y0,a1]))))))))
def g32ab0a(a b c d e f g h i:PV):T:=E3 d i0 (Q5 71 [z19,a,b,c,d,e] (fun j k l m n=>O0 [j,k,l,m,n,f,g,h,nS,nS,i,e0,e0,nS,nS,nS,i0]) (fun j k l m n=>Q5 71 [z21,j,k,l,m,n] (fun o p q r s=>C0 163 [o,p,q,r,s] (w18 fun t u v w x y a0 b0 c0 d0 f0 g0 h0 j0 k0 l0 m0 n0=>C0 89 [i7,z8,t,u,v,w,x] (w9 fun o0 p0 q0 r0 s0 t0 u0 x0 y0=>Y 92 [o0,p0,q0,r0,s0,f,g,h,(.rows [[y,a0,b0,c0,d0,f0,g0,h0,j0,k0,l0,m0,n0]]),i]))) (fun o p q r s=>C0 110 [o,p,q,r,s] (w9 fun t u v w x y a0 b0 c0=>C0 89 [i7,z13,t,u,v,w,x] (w9 fun d0 f0 g0 h0 j0 k0 l0 m0 n0=>C0 166 [d0,f0,g0,h0,j0] (w9 fun o0 p0 q0 r0 s0 t0 u0 x0 y0=>C0 89 [i7,z8,o0,p0,q0,r0,s0] (w9 fun a1 b1 c1 d1 e1 f1 g1 h1 j1=>Y 93 [a1,b1,c1,d1,e1,f,g,h,(.rows [[a0,t0,u0,x0,y0,c0]]),i]))))))) (O0 [a,b,c,d,e,f,g,h,nS,nS,i,e0,e0,nS,nS,nS,i0])
def g32ab0c(a b c d e f g h i j:PV):T:=E3 d i0 (Q5 71 [z19,a,b,c,d,e] (fun k l m n o=>O 1 [k,l,m,n,o,f,g,h,nS,i,j,e0,e0,nS,nS,nS,i0]) (fun k l m n o=>Q5 71 [z21,k,l,m,n,o] (fun p q r s t=>C0 163 [p,q,r,s,t] (w18 fun u v w x y a0 b0 c0 d0 f0 g0 h0 j0 k0 l0 m0 n0 o0=>P 26 i (.rows [[a0,b0,c0,d0,f0,g0,h0,j0,k0,l0,m0,n0,o0]]) fun p0=>C0 89 [i7,z8,u,v,w,x,y] (w9 fun q0 r0 s0 t0 u0 x0 y0 a1 b1=>Y 92 [q0,r0,s0,t0,u0,f,g,h,p0,j]))) (fun p q r s t=>C0 110 [p,q,r,s,t] (w9 fun u v w x y a0 b0 c0 d0=>C0 89 [i7,z13,u,v,w,x,y] (w9 fun f0 g0 h0 j0 k0 l0 m0 n0 o0=>C0 166 [f0,g0,h0,j0,k0] (w9 fun p0 q0 r0 s0 t0 u0 x0 y0 a1=>C0 89 [i7,z8,p0,q0,r0,s0,t0] (w9 fun b1 c1 d1 e1 f1 g1 h1 j1 k1=>Y 94 [b1,c1,d1,e1,f1,f,g,h,(.rows [[b0,u0,x0,y0,a1,d0]]),i,j]))))))) (O 1 [a,b,c,d,e,f,g,h,nS,i,j,e0,e0,nS,nS,nS,i0])
def g32ab0d(a b c d e f g h i j:PV):T:=E3 d i0 (Q5 71 [z19,a,b,c,d,e] (fun k l m n o=>O 2 [k,l,m,n,o,f,g,h,i,nS,j,e0,e0,nS,nS,nS,i0]) (fun k l m n o=>Q5 71 [z21,k,l,m,n,o] (fun p q r s t=>C0 163 [p,q,r,s,t] (w18 fun u v w x y a0 b0 c0 d0 f0 g0 h0 j0 k0 l0 m0 n0 o0=>C0 89 [i7,z8,u,v,w,x,y] (w9 fun p0 q0 r0 s0 t0 u0 x0 y0 a1=>Y 94 [p0,q0,r0,s0,t0,f,g,h,i,(.rows [[a0,b0,c0,d0,f0,g0,h0,j0,k0,l0,m0,n0,o0]]),j]))) (fun p q r s t=>C0 110 [p,q,r,s,t] (w9 fun u v w x y a0 b0 c0 d0=>C0 89 [i7,z13,u,v,w,x,y] (w9 fun f0 g0 h0 j0 k0 l0 m0 n0 o0=>C0 166 [f0,g0,h0,j0,k0] (w9 fun p0 q0 r0 s0 t0 u0 x0 y0 a1=>P 75 i (.rows [[b0,u0,x0,y0,a1,d0]]) fun b1=>C0 89 [i7,z8,p0,q0,r0,s0,t0] (w9 fun c1 d1 e1 f1 g1 h1 j1 k1 l1=>Y 93 [c1,d1,e1,f1,g1,f,g,h,b1,j]))))))) (O 2 [a,b,c,d,e,f,g,h,i,nS,j,e0,e0,nS,nS,nS,i0])
def g32ab0g(a b c d e f g h i j k:PV):T:=E3 d i0 (Q5 71 [z19,a,b,c,d,e] (fun l m n o p=>O 3 [l,m,n,o,p,f,g,h,i,j,k,e0,e0,nS,nS,nS,i0]) (fun l m n o p=>Q5 71 [z21,l,m,n,o,p] (fun q r s t u=>C0 163 [q,r,s,t,u] (w18 fun v w x y a0 b0 c0 d0 f0 g0 h0 j0 k0 l0 m0 n0 o0 p0=>P 26 j (.rows [[b0,c0,d0,f0,g0,h0,j0,k0,l0,m0,n0,o0,p0]]) fun q0=>C0 89 [i7,z8,v,w,x,y,a0] (w9 fun r0 s0 t0 u0 x0 y0 a1 b1 c1=>Y 94 [r0,s0,t0,u0,x0,f,g,h,i,q0,k]))) (fun q r s t u=>C0 110 [q,r,s,t,u] (w9 fun v w x y a0 b0 c0 d0 f0=>C0 89 [i7,z13,v,w,x,y,a0] (w9 fun g0 h0 j0 k0 l0 m0 n0 o0 p0=>C0 166 [g0,h0,j0,k0,l0] (w9 fun q0 r0 s0 t0 u0 x0 y0 a1 b1=>P 75 i (.rows [[c0,x0,y0,a1,b1,f0]]) fun c1=>C0 89 [i7,z8,q0,r0,s0,t0,u0] (w9 fun d1 e1 f1 g1 h1 j1 k1 l1 m1=>Y 94 [d1,e1,f1,g1,h1,f,g,h,c1,j,k]))))))) (O 3 [a,b,c,d,e,f,g,h,i,j,k,e0,e0,nS,nS,nS,i0])
def g33a(a b c d e:PV):T:=C0 89 [i2,e0,a,b,c,d,e] (w9 fun f g h i j k l m n=>C0 165 [f,g,h,i,j] (w9 fun o p q r s t u v w=>Q5 71 [z17,o,p,q,r,s] (fun x y a0 b0 c0=>D 96 [x,y,a0,b0,c0,l,t,u,v,w,n] 0 1 (v10 fun d0 f0 g0 h0 j0 k0 l0 m0 n0 o0=>ms [nS,nS] (v1 fun p0=>mz [e0,i0,e0,i0,nS,nS,nS,i0] (C0 89 [i6,z18,d0,f0,g0,h0,j0] (w9 fun q0 r0 s0 t0 u0 x0 y0 a1 b1=>D 99 [q0,r0,s0,t0,u0,k0,l0,m0,n0,o0,p0] 0 1 (v10 fun c1 d1 e1 f1 g1 h1 j1 k1 l1 m1=>ms [nS,nS] (v1 fun n1=>mz [e0,i0,e0,i0,nS,nS,nS,i0] (O0 [c1,d1,e1,f1,g1,h1,j1,k1,l1,m1,nS,nS,n1]))) (v10 fun c1 d1 e1 f1 g1 h1 j1 k1 l1 m1=>ms [nS] (v2 fun n1 o1=>mz [e0,i0,e0,i0,nS,nS,nS,i0] (O 1 [c1,d1,e1,f1,g1,h1,j1,k1,l1,m1,nS,n1,o1]))))))) (v11 fun d0 f0 g0 h0 j0 k0 l0 m0 n0 o0 p0=>ms [nS] (v1 fun q0=>mz [e0,i0,e0,i0,nS,nS,nS,i0] (C0 89 [i6,z18,d0,f0,g0,h0,j0] (w9 fun r0 s0 t0 u0 x0 y0 a1 b1 c1=>D 100 [r0,s0,t0,u0,x0,k0,l0,m0,n0,o0,p0,q0] 0 1 (v10 fun d1 e1 f1 g1 h1 j1 k1 l1 m1 n1=>ms [p0,nS] (v1 fun o1=>mz [e0,i0,e0,i0,nS,nS,nS,i0] (O 2 [d1,e1,f1,g1,h1,j1,k1,l1,m1,n1,p0,nS,o1]))) (v10 fun d1 e1 f1 g1 h1 j1 k1 l1 m1 n1=>ms [p0] (v2 fun o1 p1=>mz [e0,i0,e0,i0,nS,nS,nS,i0] (O 3 [d1,e1,f1,g1,h1,j1,k1,l1,m1,n1,p0,o1,p1])))))))) (fun x y a0 b0 c0=>C0 89 [i6,z18,x,y,a0,b0,c0] (w9 fun d0 f0 g0 h0 j0 k0 l0 m0 n0=>D 99 [d0,f0,g0,h0,j0,l,t,u,v,w,n] 0 1 (v10 fun o0 p0 q0 r0 s0 t0 u0 x0 y0 a1=>ms [nS,nS] (v1 fun b1=>mz [e0,i0,e0,i0,nS,nS,nS,i0] (O0 [o0,p0,q0,r0,s0,t0,u0,x0,y0,a1,nS,nS,b1]))) (v10 fun o0 p0 q0 r0 s0 t0 u0 x0 y0 a1=>ms [nS] (v2 fun b1 c1=>mz [e0,i0,e0,i0,nS,nS,nS,i0] (O 1 [o0,p0,q0,r0,s0,t0,u0,x0,y0,a1,nS,b1,c1])))))))
def g33ab0a(a b c d e f g h i j k:PV):T:=E3 d i0 (C0 89 [i2,e0,a,b,c,d,e] (w9 fun l m n o p q r s t=>C0 89 [i1,e0,l,m,n,o,p] (w9 fun u v w x y a0 b0 c0 d0=>Q5 71 [z7,u,v,w,x,y] (fun f0 g0 h0 j0 k0=>Y 97 [f0,g0,h0,j0,k0,f,g,h,i,j,(.rows [[r,i1,b0,i0,nS]]),k]) (fun f0 g0 h0 j0 k0=>Y 98 [f0,g0,h0,j0,k0,f,g,h,i,j,(.rows [[r,i1,b0,i0,nS]]),k])))) (O0 [a,b,c,d,e,f,g,h,i,j,nS,nS,k,e0,i0,e0,i0,nS,nS,nS,i0])
def g33ab0b(a b c d e f g h i j k l:PV):T:=E3 d i0 (C0 89 [i2,e0,a,b,c,d,e] (w9 fun m n o p q r s t u=>C0 89 [i1,e0,m,n,o,p,q] (w9 fun v w x y a0 b0 c0 d0 f0=>P 79 k (.rows [[s,i1,c0,i0,nS]]) fun g0=>Q5 71 [z7,v,w,x,y,a0] (fun h0 j0 k0 l0 m0=>Y 97 [h0,j0,k0,l0,m0,f,g,h,i,j,g0,l]) (fun h0 j0 k0 l0 m0=>Y 98 [h0,j0,k0,l0,m0,f,g,h,i,j,g0,l])))) (O 1 [a,b,c,d,e,f,g,h,i,j,k,nS,l,e0,i0,e0,i0,nS,nS,nS,i0])
def g33ab0c(a b c d e f g h i j k l:PV):T:=O 1 [a,b,c,d,e,f,g,h,i,j,k,nS,l,e0,i0,e0,i0,nS,nS,nS,i0]
def g33ab2a(a b c d e f g h i j k:PV):T:=E3 d i0 (Q5 71 [z19,a,b,c,d,e] (fun l m n o p=>O0 [l,m,n,o,p,f,g,h,i,j,nS,nS,k,e0,i0,e0,i0,nS,nS,nS,i0]) (fun l m n o p=>C0 89 [i6,z21,l,m,n,o,p] (w9 fun q r s t u v w x y=>C0 163 [q,r,s,t,u] (w18 fun a0 b0 c0 d0 f0 g0 h0 j0 k0 l0 m0 n0 o0 p0 q0 r0 s0 t0=>C0 89 [i7,z8,a0,b0,c0,d0,f0] (w9 fun u0 x0 y0 a1 b1 c1 d1 e1 f1=>Y 101 [u0,x0,y0,a1,b1,f,g,h,i,j,(.rows [[g0,h0,j0,k0,l0,m0,n0,o0,p0,q0,r0,s0,t0]]),k]))))) (O0 [a,b,c,d,e,f,g,h,i,j,nS,nS,k,e0,i0,e0,i0,nS,nS,nS,i0])
def g33ab2c(a b c d e f g h i j k l:PV):T:=E3 d i0 (Q5 71 [z19,a,b,c,d,e] (fun m n o p q=>O0 [m,n,o,p,q,f,g,h,i,j,k,nS,l,e0,i0,e0,i0,nS,nS,nS,i0]) (fun m n o p q=>C0 89 [i6,z21,m,n,o,p,q] (w9 fun r s t u v w x y a0=>C0 163 [r,s,t,u,v] (w18 fun b0 c0 d0 f0 g0 h0 j0 k0 l0 m0 n0 o0 p0 q0 r0 s0 t0 u0=>C0 89 [i7,z8,b0,c0,d0,f0,g0] (w9 fun x0 y0 a1 b1 c1 d1 e1 f1 g1=>Y 102 [x0,y0,a1,b1,c1,f,g,h,i,j,k,(.rows [[h0,j0,k0,l0,m0,n0,o0,p0,q0,r0,s0,t0,u0]]),l]))))) (O0 [a,b,c,d,e,f,g,h,i,j,k,nS,l,e0,i0,e0,i0,nS,nS,nS,i0])
def g33ab2e(a b c d e f g h i j k l:PV):T:=E3 d i0 (Q5 71 [z19,a,b,c,d,e] (fun m n o p q=>O 1 [m,n,o,p,q,f,g,h,i,j,nS,k,l,e0,i0,e0,i0,nS,nS,nS,i0]) (fun m n o p q=>C0 89 [i6,z21,m,n,o,p,q] (w9 fun r s t u v w x y a0=>C0 163 [r,s,t,u,v] (w18 fun b0 c0 d0 f0 g0 h0 j0 k0 l0 m0 n0 o0 p0 q0 r0 s0 t0 u0=>P 26 k (.rows [[h0,j0,k0,l0,m0,n0,o0,p0,q0,r0,s0,t0,u0]]) fun x0=>C0 89 [i7,z8,b0,c0,d0,f0,g0] (w9 fun y0 a1 b1 c1 d1 e1 f1 g1 h1=>Y 101 [y0,a1,b1,c1,d1,f,g,h,i,j,x0,l]))))) (O 1 [a,b,c,d,e,f,g,h,i,j,nS,k,l,e0,i0,e0,i0,nS,nS,nS,i0])
def g33ab2g(a b c d e f g h i j k l m:PV):T:=E3 d i0 (Q5 71 [z19,a,b,c,d,e] (fun n o p q r=>O 1 [n,o,p,q,r,f,g,h,i,j,k,l,m,e0,i0,e0,i0,nS,nS,nS,i0]) (fun n o p q r=>C0 89 [i6,z21,n,o,p,q,r] (w9 fun s t u v w x y a0 b0=>C0 163 [s,t,u,v,w] (w18 fun c0 d0 f0 g0 h0 j0 k0 l0 m0 n0 o0 p0 q0 r0 s0 t0 u0 x0=>P 26 l (.rows [[j0,k0,l0,m0,n0,o0,p0,q0,r0,s0,t0,u0,x0]]) fun y0=>C0 89 [i7,z8,c0,d0,f0,g0,h0] (w9 fun a1 b1 c1 d1 e1 f1 g1 h1 j1=>Y 102 [a1,b1,c1,d1,e1,f,g,h,i,j,k,y0,m]))))) (O 1 [a,b,c,d,e,f,g,h,i,j,k,l,m,e0,i0,e0,i0,nS,nS,nS,i0])
def g35a(a b c d e:PV):T:=C0 110 [a,b,c,d,e] (w9 fun f g h i j k l m n=>C0 89 [i7,z11,f,g,h,i,j] (w9 fun o p q r s t u v w=>C0 167 [o,p,q,r,s] (w16 fun x y a0 b0 c0 d0 f0 g0 h0 j0 k0 l0 m0 n0 o0 p0=>O0 [x,y,a0,b0,c0,l,d0,f0,g0,h0,j0,k0,l0,m0,n0,o0,p0,n])))
def g67a(a b c d e f:PV):T:=C0 70 [b,c,d,e,f] (ms [b,c,d,e,f] (w4 fun g h i j=>H3 g i6 (E9 h a (O0 [b,c,d,e,f,bt]) (O0 [b,c,d,e,f,bf])) (O0 [b,c,d,e,f,bf])))
def g70a(a b c d e:PV):T:=C0 89 [i2,e0,a,b,c,d,e] (w9 fun f g h i j k l m n=>D 106 [(.rows [[l]]),f,g,h,i,j] 0 1 (v5 fun o p q r s=>mz [(.rows [[l]])] (O0 [o,p,q,r,s,(.rows [[l]])])) (w6 fun o p q r s t=>O0 [o,p,q,r,s,t]))
def g70ab0a(a b c d e f:PV):T:=Q5 71 [z7,b,c,d,e,f] (fun g h i j k=>C0 89 [i2,e0,g,h,i,j,k] (w9 fun l m n o p q r s t=>P 52 a (.rows [[r]]) fun u=>Y 107 [u,l,m,n,o,p])) (fun g h i j k=>O0 [g,h,i,j,k,a])
def g70ab0b(a b c d e f:PV):T:=Q5 71 [z7,b,c,d,e,f] (fun g h i j k=>C0 89 [i2,e0,g,h,i,j,k] (w9 fun l m n o p q r s t=>P 52 a (.rows [[r]]) fun u=>Y 107 [u,l,m,n,o,p])) (fun g h i j k=>O 1 [g,h,i,j,k,a])
def g68a(a b c d e f:PV):T:=C0 70 [b,c,d,e,f] (ms [b,c,d,e,f] (w4 fun g h i j=>E3 g i1 (O0 [b,c,d,e,f,bt]) (E3 g i2 (O0 [b,c,d,e,f,bt]) (D 104 [z5,b,c,d,e,f] 0 0 (mz [b,c,d,e,f,bt] (O0 [b,c,d,e,f,bt])) (mz [b,c,d,e,f,bf] (H3 a i1 (E3 g i3 (O0 [b,c,d,e,f,bt]) (E3 a i1 (D 104 [z10,b,c,d,e,f] 0 0 (mz [b,c,d,e,f,bt] (O0 [b,c,d,e,f,bt])) (mz [b,c,d,e,f,bf] (E3 a i2 (E3 g i4 (O0 [b,c,d,e,f,bt]) (D 104 [z26,b,c,d,e,f] 0 0 (mz [b,c,d,e,f,bt] (O0 [b,c,d,e,f,bt])) (mz [b,c,d,e,f,bf] (O0 [b,c,d,e,f,bf])))) (O0 [b,c,d,e,f,bf])))) (E3 a i2 (E3 g i4 (O0 [b,c,d,e,f,bt]) (D 104 [z26,b,c,d,e,f] 0 0 (mz [b,c,d,e,f,bt] (O0 [b,c,d,e,f,bt])) (mz [b,c,d,e,f,bf] (O0 [b,c,d,e,f,bf])))) (O0 [b,c,d,e,f,bf])))) (E3 a i1 (D 104 [z10,b,c,d,e,f] 0 0 (mz [b,c,d,e,f,bt] (O0 [b,c,d,e,f,bt])) (mz [b,c,d,e,f,bf] (E3 a i2 (E3 g i4 (O0 [b,c,d,e,f,bt]) (D 104 [z26,b,c,d,e,f] 0 0 (mz [b,c,d,e,f,bt] (O0 [b,c,d,e,f,bt])) (mz [b,c,d,e,f,bf] (O0 [b,c,d,e,f,bf])))) (O0 [b,c,d,e,f,bf])))) (E3 a i2 (E3 g i4 (O0 [b,c,d,e,f,bt]) (D 104 [z26,b,c,d,e,f] 0 0 (mz [b,c,d,e,f,bt] (O0 [b,c,d,e,f,bt])) (mz [b,c,d,e,f,bf] (O0 [b,c,d,e,f,bf])))) (O0 [b,c,d,e,f,bf])))))))))
def g69a(a b c d e:PV):T:=C0 70 [a,b,c,d,e] (ms [a,b,c,d,e] (w4 fun f g h i=>E3 f i2 (A3 b i1 fun j=>O0 [a,j,c,d,e,i3,g,i0,nS]) (E3 f i1 (A3 b i1 fun j=>O0 [a,j,c,d,e,i1,g,i0,nS]) (C0 89 [i7,z5,a,b,c,d,e] (w9 fun j k l m n o p q r=>Q5 71 [z6,j,k,l,m,n] (fun s t u v w=>O0 [s,t,u,v,w,i3,z48,i0,nS]) (fun s t u v w=>C0 166 [s,t,u,v,w] (w9 fun x y a0 b0 c0 d0 f0 g0 h0=>C0 89 [i7,z6,x,y,a0,b0,c0] (w9 fun j0 k0 l0 m0 n0 o0 p0 q0 r0=>O0 [j0,k0,l0,m0,n0,d0,f0,g0,h0]))))))))
def g71a(a b c d e:PV):T:=Q5 71 [z5,a,b,c,d,e] (fun f g h i j=>C0 89 [i5,e0,f,g,h,i,j] (w9 fun k l m n o p q r s=>C0 89 [i7,z6,k,l,m,n,o] (w9 fun t u v w x y a0 b0 c0=>O0 [t,u,v,w,x,p,q,r,s]))) (fun f g h i j=>C0 89 [i1,e0,f,g,h,i,j] (w9 fun k l m n o p q r s=>O0 [k,l,m,n,o,p,q,r,s]))
def g72a(a b c d e:PV):T:=N3 d i0 (O0 [a,b,c,d,e,i0,e0,i0,nS]) (C0 117 [a,b,c,d,e] (w5 fun f g h i j=>C0 70 [f,g,h,i,j] (ms [f,g,h,i,j] (w4 fun k l m n=>E3 k i2 (A3 g i1 fun o=>D 112 [f,o,h,i,j,i3,l,i0] 0 1 (v8 fun p q r s t u v w=>mz [nS,i0,e0,i0,nS] (Q5 71 [z0,p,q,r,s,t] (fun x y a0 b0 c0=>C0 166 [x,y,a0,b0,c0] (w9 fun d0 f0 g0 h0 j0 k0 l0 m0 n0=>S3 g0 i1 fun o0=>O 1 [d0,f0,o0,h0,j0,i3,z0,i0,(.rows [[u,v,w,nS],[k0,l0,m0,n0]])])) (fun x y a0 b0 c0=>S3 a0 i1 fun d0=>O0 [x,y,d0,b0,c0,u,v,w,nS]))) (v9 fun p q r s t u v w x=>mz [i0,e0,i0,nS] (Q5 71 [z0,p,q,r,s,t] (fun y a0 b0 c0 d0=>C0 166 [y,a0,b0,c0,d0] (w9 fun f0 g0 h0 j0 k0 l0 m0 n0 o0=>S3 h0 i1 fun p0=>O 1 [f0,g0,p0,j0,k0,i3,z0,i0,(.rows [[u,v,w,x],[l0,m0,n0,o0]])])) (fun y a0 b0 c0 d0=>S3 b0 i1 fun f0=>O 1 [y,a0,f0,c0,d0,u,v,w,x])))) (C0 165 [f,g,h,i,j] (w9 fun o p q r s t u v w=>Q5 71 [z0,o,p,q,r,s] (fun x y a0 b0 c0=>C0 166 [x,y,a0,b0,c0] (w9 fun d0 f0 g0 h0 j0 k0 l0 m0 n0=>S3 g0 i1 fun o0=>O 1 [d0,f0,o0,h0,j0,i3,z0,i0,(.rows [[t,u,v,w],[k0,l0,m0,n0]])])) (fun x y a0 b0 c0=>S3 a0 i1 fun d0=>O0 [x,y,d0,b0,c0,t,u,v,w])))))))
def g72ab0a(a b c d e f g h:PV):T:=D 108 [i0,a,b,c,d,e] 0 0 (mz [a,b,c,d,e,bt] (C0 165 [a,b,c,d,e] (w9 fun i j k l m n o p q=>Y 113 [i,j,k,l,m,f,g,h,(.rows [[n,o,p,q]])]))) (mz [a,b,c,d,e,bf] (O0 [a,b,c,d,e,f,g,h,nS,i0,e0,i0,nS]))
def g72ab0b(a b c d e f g h i:PV):T:=D 108 [i0,a,b,c,d,e] 0 0 (mz [a,b,c,d,e,bt] (C0 165 [a,b,c,d,e] (w9 fun j k l m n o p q r=>P 45 i (.rows [[o,p,q,r]]) fun s=>Y 113 [j,k,l,m,n,f,g,h,s]))) (mz [a,b,c,d,e,bf] (O 1 [a,b,c,d,e,f,g,h,i,i0,e0,i0,nS]))
def g73a(a b c d e:PV):T:=N3 d i0 (O0 [a,b,c,d,e,i0,e0,i0,i0,e0,i0,nS,nS,nS,nS,i0]) (C0 117 [a,b,c,d,e] (w5 fun f g h i j=>C0 168 [f,g,h,i,j] (w16 fun k l m n o p q r s t u v w x y a0=>D 115 [(.rows [[p,q,r,s,t,u,v,w,x,y,a0]]),k,l,m,n,o] 0 1 (v5 fun b0 c0 d0 f0 g0=>mz [i0,e0,i0,i0,e0,i0,nS,nS,nS,nS,i0,nS,nS,(.rows [[p,q,r,s,t,u,v,w,x,y,a0]])] (N3 f0 i0 (O0 [b0,c0,d0,f0,g0,i0,e0,i0,i0,e0,i0,nS,nS,nS,nS,i0]) (C0 44 [(.rows [])] (w1 fun h0=>H3 h0 i0 (X 65 nS h0 (w4 fun j0 k0 l0 m0=>C0 69 [(iv 112),m0,b0,c0,d0,f0,g0] (w5 fun n0 o0 p0 q0 r0=>O0 [n0,o0,p0,q0,r0,i0,e0,i0,i0,e0,i0,nS,nS,nS,nS,i0]))) (S3 d0 i1 fun j0=>C0 158 [(.rows [[p,q,r,s,t,u,v,w,x,y,a0]]),(.rows []),i0,i0] (w11 fun k0 l0 m0 n0 o0 p0 q0 r0 s0 t0 u0=>O0 [b0,c0,j0,f0,g0,k0,l0,m0,n0,o0,p0,q0,r0,s0,t0,u0])))))) (v5 fun b0 c0 d0 f0 g0=>ms [i0,e0,i0,i0,e0,i0,nS,nS,nS,nS,i0] (w3 fun h0 j0 k0=>N3 f0 i0 (O0 [b0,c0,d0,f0,g0,i0,e0,i0,i0,e0,i0,nS,nS,nS,nS,i0]) (C0 44 [h0] (w1 fun l0=>H3 l0 i0 (X 65 j0 l0 (w4 fun m0 n0 o0 p0=>C0 69 [(iv 112),p0,b0,c0,d0,f0,g0] (w5 fun q0 r0 s0 t0 u0=>O0 [q0,r0,s0,t0,u0,i0,e0,i0,i0,e0,i0,nS,nS,nS,nS,i0]))) (S3 d0 i1 fun m0=>L 65 j0 fun n0=>C0 158 [k0,j0,i0,n0] (w11 fun o0 p0 q0 r0 s0 t0 u0 x0 y0 a1 b1=>O0 [b0,c0,m0,f0,g0,o0,p0,q0,r0,s0,t0,u0,x0,y0,a1,b1])))))))))
def g73ab0a(a b c d e f:PV):T:=C0 70 [b,c,d,e,f] (ms [b,c,d,e,f] (w4 fun g h i j=>E3 g i5 (C0 89 [i5,e0,b,c,d,e,f] (w9 fun k l m n o p q r s=>C0 168 [k,l,m,n,o] (w16 fun t u v w x y a0 b0 c0 d0 f0 g0 h0 j0 k0 l0=>P 84 a (.rows [[y,a0,b0,c0,d0,f0,g0,h0,j0,k0,l0]]) fun m0=>Y 116 [(.rows [[p,q,r,s]]),(.rows [[q]]),m0,t,u,v,w,x]))) (O0 [b,c,d,e,f,i0,e0,i0,i0,e0,i0,nS,nS,nS,nS,i0,nS,nS,a])))
def g73ab0b(a b c d e f g h:PV):T:=C0 70 [d,e,f,g,h] (ms [d,e,f,g,h] (w4 fun i j k l=>E3 i i5 (C0 89 [i5,e0,d,e,f,g,h] (w9 fun m n o p q r s t u=>P 65 a (.rows [[r,s,t,u]]) fun v=>P 52 b (.rows [[s]]) fun w=>C0 168 [m,n,o,p,q] (w16 fun x y a0 b0 c0 d0 f0 g0 h0 j0 k0 l0 m0 n0 o0 p0=>P 84 c (.rows [[d0,f0,g0,h0,j0,k0,l0,m0,n0,o0,p0]]) fun q0=>Y 116 [v,w,q0,x,y,a0,b0,c0]))) (O 1 [d,e,f,g,h,i0,e0,i0,i0,e0,i0,nS,nS,nS,nS,i0,b,a,c])))
def g101a(a b c d e:PV):T:=A3 c i1 fun f=>G3 f (iv 300) (C0 70 [a,b,f,d,e] (ms [a,b,f,d,e] (w4 fun g h i j=>C0 69 [(iv 111),j,a,b,f,d,e] (w5 fun k l m n o=>O0 [k,l,m,n,o])))) (O0 [a,b,f,d,e])
def g102a(a b c d e:PV):T:=C0 70 [a,b,c,d,e] (ms [a,b,c,d,e] (w4 fun f g h i=>Q5 71 [z9,a,b,c,d,e] (fun j k l m n=>C0 169 [i,j,k,l,m,n] (w16 fun o p q r s t u v w x y a0 b0 c0 d0 f0=>O0 [o,p,q,r,s,t,u,v,w,x,y,a0,b0,c0,d0,f0])) (fun j k l m n=>Q5 71 [z22,j,k,l,m,n] (fun o p q r s=>Q5 71 [z23,o,p,q,r,s] (fun t u v w x=>C0 163 [t,u,v,w,x] (w18 fun y a0 b0 c0 d0 f0 g0 h0 j0 k0 l0 m0 n0 o0 p0 q0 r0 s0=>D 119 [y,a0,b0,c0,d0,i7,e0,i1,i0,e0,i0,(.rows [[f0,g0,h0,j0,k0,l0,m0,n0,o0,p0,q0,r0,s0]]),i] 0 1 (v11 fun t0 u0 x0 y0 a1 b1 c1 d1 e1 f1 g1=>ms [nS,nS,nS,(.rows [[f0,g0,h0,j0,k0,l0,m0,n0,o0,p0,q0,r0,s0]])] (v1 fun h1=>mz [i0,e0,i0,i0,e0,i0,nS,nS,nS,nS,i0] (C0 89 [i6,z25,t0,u0,x0,y0,a1] (w9 fun j1 k1 l1 m1 n1 o1 p1 q1 r1=>C0 167 [j1,k1,l1,m1,n1] (w16 fun s1 t1 u1 x1 y1 a2 b2 c2 d2 e2 f2 g2 h2 j2 k2 l2=>O 1 [s1,t1,u1,x1,y1,b1,c1,d1,e1,f1,g1,nS,(.rows [[a2,b2,c2,d2,e2,f2,g2,h2,j2,k2,l2]]),nS,(.rows [[f0,g0,h0,j0,k0,l0,m0,n0,o0,p0,q0,r0,s0]]),h1]))))) (v11 fun t0 u0 x0 y0 a1 b1 c1 d1 e1 f1 g1=>ms [nS,nS,nS] (v2 fun h1 j1=>mz [i0,e0,i0,i0,e0,i0,nS,nS,nS,nS,i0] (C0 89 [i6,z25,t0,u0,x0,y0,a1] (w9 fun k1 l1 m1 n1 o1 p1 q1 r1 s1=>C0 167 [k1,l1,m1,n1,o1] (w16 fun t1 u1 x1 y1 a2 b2 c2 d2 e2 f2 g2 h2 j2 k2 l2 m2=>O 1 [t1,u1,x1,y1,a2,b1,c1,d1,e1,f1,g1,nS,(.rows [[b2,c2,d2,e2,f2,g2,h2,j2,k2,l2,m2]]),nS,h1,j1]))))))) (fun t u v w x=>C0 163 [t,u,v,w,x] (w18 fun y a0 b0 c0 d0 f0 g0 h0 j0 k0 l0 m0 n0 o0 p0 q0 r0 s0=>D 119 [y,a0,b0,c0,d0,i7,e0,i0,i0,e0,i0,(.rows [[f0,g0,h0,j0,k0,l0,m0,n0,o0,p0,q0,r0,s0]]),i] 0 1 (v11 fun t0 u0 x0 y0 a1 b1 c1 d1 e1 f1 g1=>ms [nS,nS,nS,(.rows [[f0,g0,h0,j0,k0,l0,m0,n0,o0,p0,q0,r0,s0]])] (v1 fun h1=>mz [i0,e0,i0,i0,e0,i0,nS,nS,nS,nS,i0] (C0 89 [i6,z25,t0,u0,x0,y0,a1] (w9 fun j1 k1 l1 m1 n1 o1 p1 q1 r1=>C0 167 [j1,k1,l1,m1,n1] (w16 fun s1 t1 u1 x1 y1 a2 b2 c2 d2 e2 f2 g2 h2 j2 k2 l2=>O 1 [s1,t1,u1,x1,y1,b1,c1,d1,e1,f1,g1,nS,(.rows [[a2,b2,c2,d2,e2,f2,g2,h2,j2,k2,l2]]),nS,(.rows [[f0,g0,h0,j0,k0,l0,m0,n0,o0,p0,q0,r0,s0]]),h1]))))) (v11 fun t0 u0 x0 y0 a1 b1 c1 d1 e1 f1 g1=>ms [nS,nS,nS] (v2 fun h1 j1=>mz [i0,e0,i0,i0,e0,i0,nS,nS,nS,nS,i0] (C0 89 [i6,z25,t0,u0,x0,y0,a1] (w9 fun k1 l1 m1 n1 o1 p1 q1 r1 s1=>C0 167 [k1,l1,m1,n1,o1] (w16 fun t1 u1 x1 y1 a2 b2 c2 d2 e2 f2 g2 h2 j2 k2 l2 m2=>O 1 [t1,u1,x1,y1,a2,b1,c1,d1,e1,f1,g1,nS,(.rows [[b2,c2,d2,e2,f2,g2,h2,j2,k2,l2,m2]]),nS,h1,j1])))))))) (fun o p q r s=>Q5 71 [z28,o,p,q,r,s] (fun t u v w x=>C0 167 [t,u,v,w,x] (w16 fun y a0 b0 c0 d0 f0 g0 h0 j0 k0 l0 m0 n0 o0 p0 q0=>C0 89 [i6,z29,y,a0,b0,c0,d0] (w9 fun r0 s0 t0 u0 x0 y0 a1 b1 c1=>C0 167 [r0,s0,t0,u0,x0] (w16 fun d1 e1 f1 g1 h1 j1 k1 l1 m1 n1 o1 p1 q1 r1 s1 t1=>C0 89 [i6,z30,d1,e1,f1,g1,h1] (w9 fun u1 x1 y1 a2 b2 c2 d2 e2 f2=>C0 167 [u1,x1,y1,a2,b2] (w16 fun g2 h2 j2 k2 l2 m2 n2 o2 p2 q2 r2 s2 t2 u2 x2 y2=>O 5 [g2,h2,j2,k2,l2,i9,e0,i0,i0,e0,i0,nS,(.rows [[f0,g0,h0,j0,k0,l0,m0,n0,o0,p0,q0],[j1,k1,l1,m1,n1,o1,p1,q1,r1,s1,t1],[m2,n2,o2,p2,q2,r2,s2,t2,u2,x2,y2]]),nS,nS,i])))))) (fun t u v w x=>C0 170 [t,u,v,w,x] (w16 fun y a0 b0 c0 d0 f0 g0 h0 j0 k0 l0 m0 n0 o0 p0 q0=>D 121 [y,a0,b0,c0,d0,f0,g0,h0,j0,k0,l0,m0,n0,o0,p0,q0,f,g,h,i] 0 1 (v16 fun r0 s0 t0 u0 x0 y0 a1 b1 c1 d1 e1 f1 g1 h1 j1 k1=>mz [f,g,h,i,i0,e0,i0,i0,e0,i0,nS,nS,nS,nS,i0] (O0 [r0,s0,t0,u0,x0,y0,a1,b1,c1,d1,e1,f1,g1,h1,j1,k1])) (v16 fun r0 s0 t0 u0 x0 y0 a1 b1 c1 d1 e1 f1 g1 h1 j1 k1=>mz [f,g,h,i,i0,e0,i0,i0,e0,i0,nS,nS,nS,nS,i0] (O 5 [r0,s0,t0,u0,x0,y0,a1,b1,c1,d1,e1,f1,g1,h1,j1,k1]))))))))
def g102ab0a(a b c d e f g h i j k l m:PV):T:=Q5 71 [z24,a,b,c,d,e] (fun n o p q r=>C0 163 [n,o,p,q,r] (w18 fun s t u v w x y a0 b0 c0 d0 f0 g0 h0 j0 k0 l0 m0=>P 26 l (.rows [[x,y,a0,b0,c0,d0,f0,g0,h0,j0,k0,l0,m0]]) fun n0=>Y 120 [s,t,u,v,w,f,g,h,i,j,k,n0,m])) (fun n o p q r=>O0 [n,o,p,q,r,f,g,h,i,j,k,nS,nS,nS,l,m,i0,e0,i0,i0,e0,i0,nS,nS,nS,nS,i0])
def g102ab0b(a b c d e f g h i j k l m:PV):T:=Q5 71 [z24,a,b,c,d,e] (fun n o p q r=>C0 163 [n,o,p,q,r] (w18 fun s t u v w x y a0 b0 c0 d0 f0 g0 h0 j0 k0 l0 m0=>P 26 l (.rows [[x,y,a0,b0,c0,d0,f0,g0,h0,j0,k0,l0,m0]]) fun n0=>Y 120 [s,t,u,v,w,f,g,h,i,j,k,n0,m])) (fun n o p q r=>O 1 [n,o,p,q,r,f,g,h,i,j,k,nS,nS,nS,l,m,i0,e0,i0,i0,e0,i0,nS,nS,nS,nS,i0])
def g102ab2a(a b c d e f g h i j k l m n o p q r s t:PV):T:=D 108 [i2,a,b,c,d,e] 0 0 (mz [a,b,c,d,e,bt] (C0 170 [a,b,c,d,e] (w16 fun u v w x y a0 b0 c0 d0 f0 g0 h0 j0 k0 l0 m0=>Y 122 [u,v,w,x,y,i5,e0,i0,i0,e0,i0,(.rows [[f,g,h,i,j,k,l,m,n,o,p],[a0,b0,c0,d0,f0,g0,h0,j0,k0,l0,m0]]),t,q,r,s,t]))) (mz [a,b,c,d,e,bf] (O0 [a,b,c,d,e,f,g,h,i,j,k,l,m,n,o,p,q,r,s,t,i0,e0,i0,i0,e0,i0,nS,nS,nS,nS,i0]))
def g102ab2b(a b c d e f g h i j k l m n o p q:PV):T:=D 108 [i2,a,b,c,d,e] 0 0 (mz [a,b,c,d,e,bt] (C0 170 [a,b,c,d,e] (w16 fun r s t u v w x y a0 b0 c0 d0 f0 g0 h0 j0=>Y 122 [r,s,t,u,v,i5,e0,i0,i0,e0,i0,(.rows [[f,g,h,i,j,k,nS,l,nS,nS,m],[w,x,y,a0,b0,c0,d0,f0,g0,h0,j0]]),q,n,o,p,q]))) (mz [a,b,c,d,e,bf] (O 1 [a,b,c,d,e,f,g,h,i,j,k,nS,l,nS,nS,m,n,o,p,q,i0,e0,i0,i0,e0,i0,nS,nS,nS,nS,i0]))
def g135a(a b c d e f:PV):T:=C0 89 [i1,e0,b,c,d,e,f] (w9 fun g h i j k l m n o=>C0 70 [g,h,i,j,k] (ms [g,h,i,j,k] (w4 fun p q r s=>E3 p i1 (C0 169 [s,g,h,i,j,k] (w16 fun t u v w x y a0 b0 c0 d0 f0 g0 h0 j0 k0 l0=>O0 [t,u,v,w,x,i6,m,i0,i0,e0,i0,nS,(.rows [[y,a0,b0,c0,d0,f0,g0,h0,j0,k0,l0]]),nS,nS,a])) (C0 89 [i7,z0,g,h,i,j,k] (w9 fun t u v w x y a0 b0 c0=>C0 167 [t,u,v,w,x] (w16 fun d0 f0 g0 h0 j0 k0 l0 m0 n0 o0 p0 q0 r0 s0 t0 u0=>O0 [d0,f0,g0,h0,j0,i6,m,i0,i0,e0,i0,nS,(.rows [[k0,l0,m0,n0,o0,p0,q0,r0,s0,t0,u0]]),nS,nS,a]))))))
def g136a(a b c d e:PV):T:=C0 70 [a,b,c,d,e] (ms [a,b,c,d,e] (w4 fun f g h i=>E3 f i1 (A3 b i1 fun j=>O0 [a,j,c,d,e,i3,g,i0,i0,e0,i0,nS,nS,nS,nS,i]) (E3 f i2 (A3 b i1 fun j=>O0 [a,j,c,d,e,i4,g,i0,i0,e0,i0,nS,nS,nS,nS,i]) (E3 f i3 (A3 b i1 fun j=>O0 [a,j,c,d,e,i1,e0,h,i0,e0,i0,nS,nS,nS,nS,i]) (E3 f i4 (A3 b i1 fun j=>O0 [a,j,c,d,e,i2,g,i0,i0,e0,i0,nS,nS,nS,nS,i]) (Q5 71 [z26,a,b,c,d,e] (fun j k l m n=>C0 167 [j,k,l,m,n] (w16 fun o p q r s t u v w x y a0 b0 c0 d0 f0=>C0 89 [i6,z27,o,p,q,r,s] (w9 fun g0 h0 j0 k0 l0 m0 n0 o0 p0=>D 125 [g0,h0,j0,k0,l0,i8,e0,i0,i0,e0,i0,(.rows [[t,u,v,w,x,y,a0,b0,c0,d0,f0]]),i] 0 1 (v11 fun q0 r0 s0 t0 u0 x0 y0 a1 b1 c1 d1=>ms [nS,(.rows [[t,u,v,w,x,y,a0,b0,c0,d0,f0]]),nS,nS] (v1 fun e1=>mz [i0,e0,i0,i0,e0,i0,nS,nS,nS,nS,i0] (C0 89 [i6,z19,q0,r0,s0,t0,u0] (w9 fun f1 g1 h1 j1 k1 l1 m1 n1 o1=>O 1 [f1,g1,h1,j1,k1,x0,y0,a1,b1,c1,d1,nS,(.rows [[t,u,v,w,x,y,a0,b0,c0,d0,f0]]),nS,nS,e1])))) (v11 fun q0 r0 s0 t0 u0 x0 y0 a1 b1 c1 d1=>ms [nS,(.rows [[t,u,v,w,x,y,a0,b0,c0,d0,f0]])] (v1 fun e1=>ms [nS] (v1 fun f1=>mz [i0,e0,i0,i0,e0,i0,nS,nS,nS,nS,i0] (C0 89 [i6,z19,q0,r0,s0,t0,u0] (w9 fun g1 h1 j1 k1 l1 m1 n1 o1 p1=>O 3 [g1,h1,j1,k1,l1,x0,y0,a1,b1,c1,d1,nS,(.rows [[t,u,v,w,x,y,a0,b0,c0,d0,f0]]),e1,nS,f1])))))))) (fun j k l m n=>C0 89 [i7,z5,j,k,l,m,n] (w9 fun o p q r s t u v w=>Q5 71 [z6,o,p,q,r,s] (fun x y a0 b0 c0=>O0 [x,y,a0,b0,c0,i4,z48,i0,i0,e0,i0,nS,nS,nS,nS,i]) (fun x y a0 b0 c0=>C0 70 [x,y,a0,b0,c0] (ms [x,y,a0,b0,c0] (w4 fun d0 f0 g0 h0=>E3 d0 i5 (C0 89 [i5,e0,x,y,a0,b0,c0] (w9 fun j0 k0 l0 m0 n0 o0 p0 q0 r0=>C0 89 [i7,z6,j0,k0,l0,m0,n0] (w9 fun s0 t0 u0 x0 y0 a1 b1 c1 d1=>O0 [s0,t0,u0,x0,y0,i3,p0,i0,i0,e0,i0,nS,nS,nS,nS,i]))) (C0 167 [x,y,a0,b0,c0] (w16 fun j0 k0 l0 m0 n0 o0 p0 q0 r0 s0 t0 u0 x0 y0 a1 b1=>Q5 71 [z13,j0,k0,l0,m0,n0] (fun c1 d1 e1 f1 g1=>C0 166 [c1,d1,e1,f1,g1] (w9 fun h1 j1 k1 l1 m1 n1 o1 p1 q1=>C0 89 [i7,z6,h1,j1,k1,l1,m1] (w9 fun r1 s1 t1 u1 x1 y1 a2 b2 c2=>O 1 [r1,s1,t1,u1,x1,(iv 12),e0,i0,n1,o1,p1,q1,(.rows [[o0,p0,q0,r0,s0,t0,u0,x0,y0,a1,b1]]),nS,nS,i]))) (fun c1 d1 e1 f1 g1=>C0 89 [i7,z6,c1,d1,e1,f1,g1] (w9 fun h1 j1 k1 l1 m1 n1 o1 p1 q1=>O0 [h1,j1,k1,l1,m1,o0,p0,q0,r0,s0,t0,u0,x0,y0,a1,b1])))))))))))))))
def g136ab1a(a b c d e f g h i j k l m:PV):T:=E3 d i0 (C0 171 [a,b,c,d,e] (w10 fun n o p q r s t u v w=>C0 89 [i7,z0,n,o,p,q,r] (w9 fun x y a0 b0 c0 d0 f0 g0 h0=>C0 167 [x,y,a0,b0,c0] (w16 fun j0 k0 l0 m0 n0 o0 p0 q0 r0 s0 t0 u0 x0 y0 a1 b1=>Q5 71 [z12,j0,k0,l0,m0,n0] (fun c1 d1 e1 f1 g1=>Y 126 [c1,d1,e1,f1,g1,f,g,h,i,j,k,l,(.rows [[s,t,u,v,w,o0,p0,q0,r0,s0,t0,u0,x0,y0,a1,b1]]),m]) (fun c1 d1 e1 f1 g1=>Y 127 [c1,d1,e1,f1,g1,f,g,h,i,j,k,l,(.rows [[s,t,u,v,w,o0,p0,q0,r0,s0,t0,u0,x0,y0,a1,b1]]),m]))))) (O0 [a,b,c,d,e,f,g,h,i,j,k,nS,l,nS,nS,m,i0,e0,i0,i0,e0,i0,nS,nS,nS,nS,i0])
def g136ab1b(a b c d e f g h i j k l m n:PV):T:=E3 d i0 (C0 171 [a,b,c,d,e] (w10 fun o p q r s t u v w x=>C0 89 [i7,z0,o,p,q,r,s] (w9 fun y a0 b0 c0 d0 f0 g0 h0 j0=>C0 167 [y,a0,b0,c0,d0] (w16 fun k0 l0 m0 n0 o0 p0 q0 r0 s0 t0 u0 x0 y0 a1 b1 c1=>P 85 m (.rows [[t,u,v,w,x,p0,q0,r0,s0,t0,u0,x0,y0,a1,b1,c1]]) fun d1=>Q5 71 [z12,k0,l0,m0,n0,o0] (fun e1 f1 g1 h1 j1=>Y 126 [e1,f1,g1,h1,j1,f,g,h,i,j,k,l,d1,n]) (fun e1 f1 g1 h1 j1=>Y 127 [e1,f1,g1,h1,j1,f,g,h,i,j,k,l,d1,n]))))) (O 1 [a,b,c,d,e,f,g,h,i,j,k,nS,l,m,nS,n,i0,e0,i0,i0,e0,i0,nS,nS,nS,nS,i0])
def g136ab1c(a b c d e f g h i j k l m n:PV):T:=O 1 [a,b,c,d,e,f,g,h,i,j,k,nS,l,m,nS,n,i0,e0,i0,i0,e0,i0,nS,nS,nS,nS,i0]
def g151a(a b c d e:PV):T:=N3 d i0 (O0 [a,b,c,d,e,i0,e0,i0,nS,i0]) (C0 117 [a,b,c,d,e] (w5 fun f g h i j=>C0 70 [f,g,h,i,j] (ms [f,g,h,i,j] (w4 fun k l m n=>E3 k i2 (J (C0 134 [f,g,h,i,j] (v8 fun o p q r s t u v=>ms [nS] (w1 fun w=>D 129 [o,p,q,r,s,t,u,v,w] 0 1 (v8 fun x y a0 b0 c0 d0 f0 g0=>ms [nS] (v1 fun h0=>mz [i0,e0,i0,nS,i0] (S3 a0 i1 fun j0=>O0 [x,y,j0,b0,c0,d0,f0,g0,nS,h0]))) (v10 fun x y a0 b0 c0 d0 f0 g0 h0 j0=>mz [i0,e0,i0,nS,i0] (S3 a0 i1 fun k0=>O 1 [x,y,k0,b0,c0,d0,f0,g0,h0,j0]))))) (C0 172 [f,g,h,i,j] (w10 fun o p q r s t u v w x=>C0 130 [o,p,q,r,s,t,u,v,w,x] (mz [o,p,q,r,s,t,u,v,w,x,i0,e0,i0,nS,i0] (S3 q i1 fun y=>O0 [o,p,y,r,s,t,u,v,w,x]))))) (J (C0 134 [f,g,h,i,j] (v8 fun o p q r s t u v=>ms [nS] (w1 fun w=>C0 131 [o,p,q,r,s,t,u,v,w] (mz [o,p,q,r,s,t,u,v,nS,w,i0,e0,i0,nS,i0] (S3 q i1 fun x=>O0 [o,p,x,r,s,t,u,v,nS,w]))))) (C0 172 [f,g,h,i,j] (w10 fun o p q r s t u v w x=>C0 132 [o,p,q,r,s,t,u,v,w,x] (mz [o,p,q,r,s,t,u,v,w,x,i0,e0,i0,nS,i0] (S3 q i1 fun y=>O0 [o,p,y,r,s,t,u,v,w,x])))))))))
def g151ab0a(a b c d e f g h i:PV):T:=D 108 [i1,a,b,c,d,e] 0 0 (mz [a,b,c,d,e,bt] (J (C0 134 [a,b,c,d,e] (v8 fun j k l m n o p q=>ms [nS] (w1 fun r=>Y 133 [j,k,l,m,n,f,g,h,(.rows [[o,p,q,nS,r]]),i]))) (C0 172 [a,b,c,d,e] (w10 fun j k l m n o p q r s=>Y 133 [j,k,l,m,n,f,g,h,(.rows [[o,p,q,r,s]]),i])))) (mz [a,b,c,d,e,bf] (O0 [a,b,c,d,e,f,g,h,nS,i,i0,e0,i0,nS,i0]))
def g151ab0b(a b c d e f g h i j:PV):T:=C0 108 [i1,a,b,c,d,e] (mz [a,b,c,d,e,bf] (O0 [a,b,c,d,e,f,g,h,i,j,i0,e0,i0,nS,i0]))
def g151ab0c(a b c d e f g h i:PV):T:=O0 [a,b,c,d,e,f,g,h,nS,i,i0,e0,i0,nS,i0]
def g151ab0d(a b c d e f g h i j:PV):T:=O0 [a,b,c,d,e,f,g,h,i,j,i0,e0,i0,nS,i0]
def g151ab0e(a b c d e f g h i j:PV):T:=D 108 [i1,a,b,c,d,e] 0 0 (mz [a,b,c,d,e,bt] (J (C0 134 [a,b,c,d,e] (v8 fun k l m n o p q r=>ms [nS] (w1 fun s=>P 176 i (.rows [[p,q,r,nS,s]]) fun t=>Y 133 [k,l,m,n,o,f,g,h,t,j]))) (C0 172 [a,b,c,d,e] (w10 fun k l m n o p q r s t=>P 176 i (.rows [[p,q,r,s,t]]) fun u=>Y 133 [k,l,m,n,o,f,g,h,u,j])))) (mz [a,b,c,d,e,bf] (O 1 [a,b,c,d,e,f,g,h,i,j,i0,e0,i0,nS,i0]))
def g154a(a b c d e:PV):T:=C0 70 [a,b,c,d,e] (ms [a,b,c,d,e] (w4 fun f g h i=>E3 f i2 (A3 b i1 fun j=>O0 [a,j,c,d,e,i3,g,i0,nS,i]) (E3 f i1 (A3 b i1 fun j=>O0 [a,j,c,d,e,i2,g,i0,nS,i]) (E3 f i3 (A3 b i1 fun j=>O0 [a,j,c,d,e,i4,e0,h,nS,i]) (D 104 [z10,a,b,c,d,e] 0 0 (mz [a,b,c,d,e,bt] (A3 b i1 fun j=>O0 [a,j,c,d,e,i1,e0,i0,nS,i])) (mz [a,b,c,d,e,bf] (C0 89 [i7,z5,a,b,c,d,e] (w9 fun j k l m n o p q r=>Q5 71 [z6,j,k,l,m,n] (fun s t u v w=>O0 [s,t,u,v,w,i3,z48,i0,nS,i]) (fun s t u v w=>C0 171 [s,t,u,v,w] (w10 fun x y a0 b0 c0 d0 f0 g0 h0 j0=>C0 89 [i7,z6,x,y,a0,b0,c0] (w9 fun k0 l0 m0 n0 o0 p0 q0 r0 s0=>O0 [k0,l0,m0,n0,o0,d0,f0,g0,h0,j0])))))))))))
def g10(a b c d:PV):T:=O0 [a,b,c]
def g11(a b c d e f g h:PV):T:=L 23 a fun i=>L 23 e fun j=>N3 i j (O0 [bf]) (L 24 b fun k=>L 24 f fun l=>N3 k l (O0 [bf]) (L 25 c fun m=>L 25 g fun n=>N3 m n (O0 [bf]) (J (C 137 [i0,a,b,c,d,e,f,g,h] 1 (mz [a,b,c,d,e,f,g,h] (J (C 138 [i0,a,b,c,d,e,f,g,h] 1 (mz [a,b,c,d,e,f,g,h] (J (C 139 [i0,a,b,c,d,e,f,g,h] 1 (mz [a,b,c,d,e,f,g,h] (Q0 148 [d,h] (O0 [bt]) (O0 [bf])))) (D 139 [i0,a,b,c,d,e,f,g,h] 0 0 (mz [a,b,c,d,e,f,g,h,bt] (O0 [bt])) (mz [a,b,c,d,e,f,g,h,bf] (O0 [bf])))))) (D 138 [i0,a,b,c,d,e,f,g,h] 0 0 (mz [a,b,c,d,e,f,g,h,bt] (O0 [bt])) (mz [a,b,c,d,e,f,g,h,bf] (O0 [bf])))))) (D 137 [i0,a,b,c,d,e,f,g,h] 0 0 (mz [a,b,c,d,e,f,g,h,bt] (O0 [bt])) (mz [a,b,c,d,e,f,g,h,bf] (O0 [bf]))))))
def g11b0a(a b c d e f g h i:PV):T:=L 23 b fun j=>L3 a j (X 23 b a (w5 fun k l m n o=>X 23 f a (w5 fun p q r s t=>Q0 142 [k,l,m,n,o,p,q,r,s,t] (A3 a i1 fun u=>Y 137 [u,b,c,d,e,f,g,h,i]) (O0 [b,c,d,e,f,g,h,i,bf])))) (O 1 [b,c,d,e,f,g,h,i])
def g11b2a(a b c d e f g h i:PV):T:=L 24 c fun j=>L3 a j (X 24 c a (w6 fun k l m n o p=>X 24 g a (w6 fun q r s t u v=>Q0 144 [k,l,m,n,o,p,q,r,s,t,u,v] (A3 a i1 fun w=>Y 138 [w,b,c,d,e,f,g,h,i]) (O0 [b,c,d,e,f,g,h,i,bf])))) (O 1 [b,c,d,e,f,g,h,i])
def g11b4a(a b c d e f g h i:PV):T:=L 25 d fun j=>L3 a j (X 25 d a (w8 fun k l m n o p q r=>X 25 h a (w8 fun s t u v w x y a0=>Q0 146 [k,l,m,n,o,p,q,r,s,t,u,v,w,x,y,a0] (A3 a i1 fun b0=>Y 139 [b0,b,c,d,e,f,g,h,i]) (O0 [b,c,d,e,f,g,h,i,bf])))) (O 1 [b,c,d,e,f,g,h,i])
def g25(a b:PV):T:=L 52 a fun c=>L 52 b fun d=>N3 c d (O0 [bf]) (J (C 141 [i0,a,b] 1 (z (O0 [bt]))) (Q0 141 [i0,a,b] (O0 [bt]) (O0 [bf])))
def g25b0a(a b c:PV):T:=L 52 b fun d=>L3 a d (X 52 b a (w1 fun e=>X 52 c a (w1 fun f=>N9 e f (O0 [bf]) (A3 a i1 fun g=>Y 141 [g,b,c])))) (O 1 [])
def g46(a b c d e f g h i j:PV):T:=N9 a f (O0 [bf]) (Q0 140 [b,g] (Q0 140 [d,i] (L 71 c fun k=>L 71 h fun l=>N3 k l (O0 [bf]) (J (C 143 [i0,a,b,c,d,e,f,g,h,i,j] 1 (mz [a,b,c,d,e,f,g,h,i,j] (O0 [bt]))) (D 143 [i0,a,b,c,d,e,f,g,h,i,j] 0 0 (mz [a,b,c,d,e,f,g,h,i,j,bt] (O0 [bt])) (mz [a,b,c,d,e,f,g,h,i,j,bf] (O0 [bf]))))) (O0 [bf])) (O0 [bf]))
def g46b0a(a b c d e f g h i j k:PV):T:=L 71 d fun l=>L3 a l (X 71 d a (w3 fun m n o=>X 71 i a (w3 fun p q r=>N9 m p (O0 [b,c,d,e,f,g,h,i,j,k,bf]) (Q0 150 [n,q] (A3 a i1 fun s=>Y 143 [s,b,c,d,e,f,g,h,i,j,k]) (O0 [b,c,d,e,f,g,h,i,j,k,bf]))))) (O 1 [b,c,d,e,f,g,h,i,j,k])
def g47(a b c d e f g h i j k l:PV):T:=N9 a g (O0 [bf]) (N9 b h (O0 [bf]) (Q0 140 [c,i] (L 75 d fun m=>L 75 j fun n=>N3 m n (O0 [bf]) (J (C 145 [i0,a,b,c,d,e,f,g,h,i,j,k,l] 1 (mz [a,b,c,d,e,f,g,h,i,j,k,l] (Q0 148 [e,k] (O0 [bt]) (O0 [bf])))) (D 145 [i0,a,b,c,d,e,f,g,h,i,j,k,l] 0 0 (mz [a,b,c,d,e,f,g,h,i,j,k,l,bt] (O0 [bt])) (mz [a,b,c,d,e,f,g,h,i,j,k,l,bf] (O0 [bf]))))) (O0 [bf])))
def g47b0a(a b c d e f g h i j k l m:PV):T:=L 75 e fun n=>L3 a n (X 75 e a (w6 fun o p q r s t=>X 75 k a (w6 fun u v w x y a0=>N9 o u (O0 [b,c,d,e,f,g,h,i,j,k,l,m,bf]) (Q0 152 [p,q,r,s,v,w,x,y] (A3 a i1 fun b0=>Y 145 [b0,b,c,d,e,f,g,h,i,j,k,l,m]) (O0 [b,c,d,e,f,g,h,i,j,k,l,m,bf]))))) (O 1 [b,c,d,e,f,g,h,i,j,k,l,m])
def g48(a b c d e f g h i j k l m n o p:PV):T:=N9 a i (O0 [bf]) (Q0 152 [b,c,d,e,j,k,l,m] (L 79 f fun q=>L 79 n fun r=>N3 q r (O0 [bf]) (J (C 147 [i0,a,b,c,d,e,f,g,h,i,j,k,l,m,n,o,p] 1 (mz [a,b,c,d,e,f,g,h,i,j,k,l,m,n,o,p] (Q0 148 [g,o] (O0 [bt]) (O0 [bf])))) (D 147 [i0,a,b,c,d,e,f,g,h,i,j,k,l,m,n,o,p] 0 0 (mz [a,b,c,d,e,f,g,h,i,j,k,l,m,n,o,p,bt] (O0 [bt])) (mz [a,b,c,d,e,f,g,h,i,j,k,l,m,n,o,p,bf] (O0 [bf]))))) (O0 [bf]))
def g48b0a(a b c d e f g h i j k l m n o p q:PV):T:=L 79 g fun r=>L3 a r (X 79 g a (w5 fun s t u v w=>X 79 o a (w5 fun x y a0 b0 c0=>N9 s x (O0 [b,c,d,e,f,g,h,i,j,k,l,m,n,o,p,q,bf]) (Q0 152 [t,u,v,w,y,a0,b0,c0] (A3 a i1 fun d0=>Y 147 [d0,b,c,d,e,f,g,h,i,j,k,l,m,n,o,p,q]) (O0 [b,c,d,e,f,g,h,i,j,k,l,m,n,o,p,q,bf]))))) (O 1 [b,c,d,e,f,g,h,i,j,k,l,m,n,o,p,q])
def g49(a b:PV):T:=L 26 a fun c=>L 26 b fun d=>N3 c d (O0 [bf]) (J (C 149 [i0,a,b] 1 (z (O0 [bt]))) (Q0 149 [i0,a,b] (O0 [bt]) (O0 [bf])))
def g49b0a(a b c:PV):T:=L 26 b fun d=>L3 a d (X 26 b a (w13 fun e f g h i j k l m n o p q=>X 26 c a (w13 fun r s t u v w x y a0 b0 c0 d0 f0=>N9 e r (O0 [bf]) (Q0 153 [f,g,h,i,j,k,l,m,n,o,p,s,t,u,v,w,x,y,a0,b0,c0,d0] (A3 a i1 fun g0=>Y 149 [g0,b,c]) (O0 [bf]))))) (O 1 [])
def g88(a b:PV):T:=L 45 a fun c=>L 45 b fun d=>N3 c d (O0 [bf]) (J (C 151 [i0,a,b] 1 (z (O0 [bt]))) (Q0 151 [i0,a,b] (O0 [bt]) (O0 [bf])))
def g88b0a(a b c:PV):T:=L 45 b fun d=>L3 a d (X 45 b a (w4 fun e f g h=>X 45 c a (w4 fun i j k l=>Q0 152 [e,f,g,h,i,j,k,l] (A3 a i1 fun m=>Y 151 [m,b,c]) (O0 [bf])))) (O 1 [])
def g89(a b c d e f g h:PV):T:=E3 a e (E9 b f (E3 c g (Q0 150 [d,h] (O0 [bt]) (O0 [bf])) (O0 [bf])) (O0 [bf])) (O0 [bf])
def g90(a b c d e f g h i j k l m n o p q r s t u v:PV):T:=N3 a l (O0 [bf]) (N9 b m (O0 [bf]) (TW .neq 2 c n (O0 [bf]) (Q0 152 [d,e,f,g,o,p,q,r] (L 84 h fun w=>L 84 s fun x=>N3 w x (O0 [bf]) (L 85 i fun y=>L 85 t fun a0=>N3 y a0 (O0 [bf]) (Q0 148 [j,u] (J (C 154 [i0,a,b,c,d,e,f,g,h,i,j,k,l,m,n,o,p,q,r,s,t,u,v] 1 (mz [a,b,c,d,e,f,g,h,i,j,k,l,m,n,o,p,q,r,s,t,u,v] (J (C 155 [i0,a,b,c,d,e,f,g,h,i,j,k,l,m,n,o,p,q,r,s,t,u,v] 1 (mz [a,b,c,d,e,f,g,h,i,j,k,l,m,n,o,p,q,r,s,t,u,v] (O0 [bt]))) (D 155 [i0,a,b,c,d,e,f,g,h,i,j,k,l,m,n,o,p,q,r,s,t,u,v] 0 0 (mz [a,b,c,d,e,f,g,h,i,j,k,l,m,n,o,p,q,r,s,t,u,v,bt] (O0 [bt])) (mz [a,b,c,d,e,f,g,h,i,j,k,l,m,n,o,p,q,r,s,t,u,v,bf] (O0 [bf])))))) (D 154 [i0,a,b,c,d,e,f,g,h,i,j,k,l,m,n,o,p,q,r,s,t,u,v] 0 0 (mz [a,b,c,d,e,f,g,h,i,j,k,l,m,n,o,p,q,r,s,t,u,v,bt] (O0 [bt])) (mz [a,b,c,d,e,f,g,h,i,j,k,l,m,n,o,p,q,r,s,t,u,v,bf] (O0 [bf])))) (O0 [bf])))) (O0 [bf]))))
def g90b0a(a b c d e f g h i j k l m n o p q r s t u v w:PV):T:=L 84 i fun x=>L3 a x (X 84 i a (w11 fun y a0 b0 c0 d0 f0 g0 h0 j0 k0 l0=>X 84 t a (w11 fun m0 n0 o0 p0 q0 r0 s0 t0 u0 x0 y0=>Q0 153 [y,a0,b0,c0,d0,f0,g0,h0,j0,k0,l0,m0,n0,o0,p0,q0,r0,s0,t0,u0,x0,y0] (A3 a i1 fun a1=>Y 154 [a1,b,c,d,e,f,g,h,i,j,k,l,m,n,o,p,q,r,s,t,u,v,w]) (O0 [b,c,d,e,f,g,h,i,j,k,l,m,n,o,p,q,r,s,t,u,v,w,bf])))) (O 1 [b,c,d,e,f,g,h,i,j,k,l,m,n,o,p,q,r,s,t,u,v,w])
def g90b2a(a b c d e f g h i j k l m n o p q r s t u v w:PV):T:=L 85 j fun x=>L3 a x (X 85 j a (w16 fun y a0 b0 c0 d0 f0 g0 h0 j0 k0 l0 m0 n0 o0 p0 q0=>X 85 u a (w16 fun r0 s0 t0 u0 x0 y0 a1 b1 c1 d1 e1 f1 g1 h1 j1 k1=>Q0 156 [y,a0,b0,c0,d0,r0,s0,t0,u0,x0] (Q0 153 [f0,g0,h0,j0,k0,l0,m0,n0,o0,p0,q0,y0,a1,b1,c1,d1,e1,f1,g1,h1,j1,k1] (A3 a i1 fun l1=>Y 155 [l1,b,c,d,e,f,g,h,i,j,k,l,m,n,o,p,q,r,s,t,u,v,w]) (O0 [b,c,d,e,f,g,h,i,j,k,l,m,n,o,p,q,r,s,t,u,v,w,bf])) (O0 [b,c,d,e,f,g,h,i,j,k,l,m,n,o,p,q,r,s,t,u,v,w,bf])))) (O 1 [b,c,d,e,f,g,h,i,j,k,l,m,n,o,p,q,r,s,t,u,v,w])
def g122(a b c d e f g h i j:PV):T:=N3 a f (O0 [bf]) (N9 b g (O0 [bf]) (TW .neq 2 c h (O0 [bf]) (L 176 d fun k=>L 176 i fun l=>N3 k l (O0 [bf]) (J (C 157 [i0,a,b,c,d,e,f,g,h,i,j] 1 (mz [a,b,c,d,e,f,g,h,i,j] (O0 [bt]))) (D 157 [i0,a,b,c,d,e,f,g,h,i,j] 0 0 (mz [a,b,c,d,e,f,g,h,i,j,bt] (O0 [bt])) (mz [a,b,c,d,e,f,g,h,i,j,bf] (O0 [bf])))))))
def g122b0a(a b c d e f g h i j k:PV):T:=L 176 e fun l=>L3 a l (X 176 e a (w5 fun m n o p q=>X 176 j a (w5 fun r s t u v=>Q0 156 [m,n,o,p,q,r,s,t,u,v] (A3 a i1 fun w=>Y 157 [w,b,c,d,e,f,g,h,i,j,k]) (O0 [b,c,d,e,f,g,h,i,j,k,bf])))) (O 1 [b,c,d,e,f,g,h,i,j,k])
end
def y0:Env:=[(0,(rA 0)),(4,(rA 1)),(2,(rA 2))]
def y1:Env:=[(5,(rA 0)),(6,(rA 1)),(2,(rA 2))]
def y2:Env:=[(5,(rA 0)),(2,(rA 2)),(6,(rA 1))]
def y3:Env:=[(0,(rA 0)),(4,(rA 1)),(2,(rA 3))]
def y4:List Shape:=[yE .ret [(4,o0)] [] 1,yE (.exit 0) [] [] 0]
def y5:List Shape:=[yV (.agg (wR 5 4)) [b67_5 0] 9]
def y6:List AObj:=[b67_5 0,.box 87 (wR 5 6++[nA,(.tsym 2 11),(.tsym 4 12),nA,o13]),tk 87 11 11,.box 87 ([zA,eA,zA,zA,eA,zA]++nR 4++[zA]),tk 180 16 12]
def y7:Env:=[(5,o0),(2,(rA 0)),(3,(rA 1))]
def y8:Env:=[(0,(rA 0)),(7,(rA 1)),(4,(rA 2)),(2,(rA 4))]
def y9:Env:=[(4,(rA 2)),(7,(rA 1)),(0,(rA 0)),(2,(rA 4))]
def y10:List Shape:=[yV (.agg (wR 5 11)) [b67_5 0] 16]
def y11:Env:=[(5,tA),(0,(rA 0)),(4,(rA 1)),(2,(rA 2))]
def y12:Env:=[(5,tA),(0,(rA 0)),(4,(rA 1)),(2,(rA 3))]
def y13:List AObj:=[b67_5 0,.box 73 [o5,(.tsym 2 6),(.tsym 4 7),nA,o8],tk 9 1 6,.box 73 [eA,nA,nA,nA,zA],tk 109 3 7]
def y14:List AObj:=[b67_5 0,.box 81 (wR 5 5++[(.tsym 3 10),nA,o11]),.box 81 [eA,zA,eA,zA,nA,nA,nA,zA],tk 132 5 10]
def y15:Env:=[(4,(rA 1)),(2,(rA 2))]
def y16:List Shape:=[yV (.agg (wR 5 5)) [b67_5 0] 10]
def y17:List AObj:=[b67_5 0,.box 73 [o5,nA,(.tsym 3 6),nA,o7],.box 73 [eA,nA,nA,nA,zA],tk 109 3 6]
def en37:Ent:=eF 65 [o0] [] 1 32
def en42:Ent:=eF 104 (wR 0 4) [] 4 36
def en52:Ent:=eF 7 [o0] [] 1 46
def en72:Ent:=eF 31 [(rA 0)] [b67_5 0] 5 51
def en90:Ent:=eF 32 [(rA 0)] [b67_5 0] 5 59
def en95:Ent:=eF 33 [(rA 0)] [b67_5 0] 5 61
def en103:Ent:=eF 35 [(rA 0)] [b67_5 0] 5 65
def en105:Ent:=eF 70 [(rA 0)] [b67_5 0] 5 67
def en109:Ent:=eF 69 [(rA 0)] [b67_5 0] 5 70
def en111:Ent:=eF 72 [(rA 0)] [b67_5 0] 5 72
def en114:Ent:=eF 73 [(rA 0)] [b67_5 0] 5 74
def en118:Ent:=eF 102 [(rA 0)] [b67_5 0] 5 77
def en123:Ent:=eF 135 [(rA 0),o0] [b67_5 1] 6 80
def en124:Ent:=eF 136 [(rA 0)] [b67_5 0] 5 81
def en128:Ent:=eF 151 [(rA 0)] [b67_5 0] 5 83
def en134:Ent:=eF 154 [(rA 0)] [b67_5 0] 5 85
def en135:Ent:=eF 10 [(.agg (wR 0 4))] [] 4 86
def en136:Ent:=eF 11 [(.agg (wR 0 4)),(.agg (wR 4 4))] [] 8 87
def en158:Ent:=wkE en42 109 42
def en159:Ent:=wkE en37 110 37
def en160:Ent:=wkE en72 111 72
def en161:Ent:=wkE en90 112 90
def en162:Ent:=wkE en95 113 95
def en163:Ent:=wkE en103 114 103
def en164:Ent:=wkE en105 115 105
def en165:Ent:=wkE en109 116 109
def en166:Ent:=wkE en111 117 111
def en167:Ent:=wkE en114 118 114
def en168:Ent:=wkE en118 119 118
def en169:Ent:=wkE en123 120 123
def en170:Ent:=wkE en124 121 124
def en171:Ent:=wkE en128 122 128
def en172:Ent:=wkE en134 123 134
def en173:Ent:=wkE en52 124 52
def enL:List Ent:=[
 eF 124 [o0,o1] [] 2 0,
 eL 0 0 124 [(9,o0),(6,(.pv (.lit (.int .i64 4)))),(0,o1),(1,o2),(7,o3),(8,(.pv (.lit (.int .i64 65536))))] [] 4 1,
 eL 0 0 124 [(9,o0),(6,(.pv (.lit (.int .i64 3)))),(0,o1),(1,o2),(7,o3),(8,(.pv (.lit (.int .i64 2048))))] [] 4 1,
 eL 0 0 124 [(9,o0),(6,(.pv (.lit (.int .i64 2)))),(0,o1),(1,o2),(7,o3),(8,(.pv (.lit (.int .i64 128))))] [] 4 1,
 eF 125 [o0] [] 1 2,
 eF 127 [o0] [] 1 3,
 eF 130 [o0] [] 1 4,
 eF 131 [o0] [] 1 5,
 eF 132 [o0] [] 1 6,
 eF 133 [o0] [] 1 7,
 eF 134 [o0] [] 1 8,
 eF 147 [o0,o1] [] 2 9,
 eL 0 0 147 [(5,o0),(0,o1),(1,o2)] [] 3 10,
 eF 148 [o0] [] 1 11,
 eF 150 [o0,o1] [] 2 12,
 eL 0 0 150 [(5,o0),(1,o1),(0,o2)] [] 3 13,
 eF 126 [o0,o1] [] 2 14,
 eL 0 0 126 [(8,o0),(0,o1),(7,nA)] [] 2 15,
 rn [2] (eL 0 0 126 [(8,o0),(0,o1),(7,(.tsym 0 2))] [tk 5 1 2] 3 15),
 eF 128 (wR 0 3) [] 3 16,
 eL 0 0 128 [(1,o0),(0,o1),(2,o2)] [] 3 17,
 eF 98 [o0] [] 1 18,
 eL 0 0 98 [(3,o0),(0,o1)] [] 2 19,
 eF 99 [o0,o1] [] 2 20,
 eL 0 0 99 [(1,o0),(0,o1)] [] 2 21,
 eL 2 0 99 [(1,o0),(0,o1)] [] 2 22,
 eF 129 [o0] [] 1 23,
 eL 0 0 129 [(6,o0),(0,o1),(5,(.pv (.lit (.int .i64 1)))),(4,tA)] [] 2 24,
 eL 0 0 129 [(6,o0),(0,o1),(5,zA),(4,fA)] [] 2 24,
 eL 2 0 129 [(8,o0),(0,o1),(7,o2),(4,tA)] [] 3 25,
 eL 2 0 129 [(8,o0),(0,o1),(7,o2),(4,fA)] [] 3 25,
 eF 149 [o0,tA] [] 1 26,
 eF 149 [o0,fA] [] 1 27,
 eF 152 [o0,o1] [] 2 28,
 eF 153 [o0] [] 1 29,
 eF 155 [o0] [] 1 30,
 eF 156 [o0] [] 1 31,
 en37,
 eL 0 0 65 [(7,o0),(0,o1),(6,nA)] [] 2 33,
 rn [2] (eL 0 0 65 [(7,o0),(0,o1),(6,(.tsym 0 2))] [tk 69 4 2] 3 33),
 eF 100 [o0,o1] [] 2 34,
 eL 0 2 100 [(13,o0),(12,o1),(0,o2),(8,(rA 0)),(4,(rA 1))] [.box 69 [zA,eA,zA,o3],.box 69 [zA,eA,zA,zA]] 4 35,
 en42,
 eL 0 1 104 [(10,o0),(3,o1),(1,o2),(9,o3),(0,o4),(2,o5),(8,(rA 0))] [.box 87 ([zA,eA,zA,zA,eA,zA]++nR 4++[zA])] 6 37,
 eF 103 [o0] [] 1 38,
 eL 0 0 103 [(3,o0),(0,o1)] [] 2 39,
 eL 2 0 103 [(4,o0),(0,o1),(3,o2)] [] 3 40,
 eF 137 [o0] [] 1 41,
 rn [1] (eL 0 1 137 [(4,o0),(3,(.tsym 0 1)),(0,o2)] [tk 52 1 1] 3 42),
 rn [1] (eL 2 1 137 [(5,o0),(3,(.tsym 0 1)),(4,o2),(0,o3)] [tk 52 1 1] 4 43),
 eF 138 [o0] [] 1 44,
 eF 28 [o0] [] 1 45,
 en52,
 eL 0 3 7 y1 [b67_5 0,.box 28 (nR 4),.box 28 (nR 4)] 5 47,
 rn [5] (eL 0 3 7 y1 [b67_5 0,.box 28 [(.tsym 3 5),nA,nA,nA],.box 28 (nR 4),tk 73 5 5] 6 47),
 rn [5] (eL 0 3 7 y1 [b67_5 0,.box 28 [nA,(.tsym 3 5),nA,nA],.box 28 (nR 4),tk 77 6 5] 6 47),
 rn [5] (eL 0 3 7 y1 [b67_5 0,.box 28 [nA,nA,(.tsym 3 5),nA],.box 28 (nR 4),tk 81 8 5] 6 47),
 rn [5] (eL 0 3 7 y1 [b67_5 0,.box 28 [nA,nA,nA,(.tsym 3 5)],.box 28 (nR 4),tk 89 13 5] 6 47),
 rn [5,6] (eL 0 3 7 y1 [b67_5 0,.box 28 [(.tsym 3 5),(.tsym 4 6),nA,nA],.box 28 (nR 4),tk 73 5 5,tk 77 6 6] 7 47),
 rn [5,6] (eL 0 3 7 y1 [b67_5 0,.box 28 [(.tsym 3 5),nA,(.tsym 4 6),nA],.box 28 (nR 4),tk 73 5 5,tk 81 8 6] 7 47),
 rn [5,6] (eL 0 3 7 y1 [b67_5 0,.box 28 [(.tsym 3 5),nA,nA,(.tsym 4 6)],.box 28 (nR 4),tk 73 5 5,tk 89 13 6] 7 47),
 rn [5,6] (eL 0 3 7 y1 [b67_5 0,.box 28 [nA,(.tsym 3 5),(.tsym 4 6),nA],.box 28 (nR 4),tk 77 6 5,tk 81 8 6] 7 47),
 rn [5,6] (eL 0 3 7 y1 [b67_5 0,.box 28 [nA,(.tsym 3 5),nA,(.tsym 4 6)],.box 28 (nR 4),tk 77 6 5,tk 89 13 6] 7 47),
 rn [5,6] (eL 0 3 7 y1 [b67_5 0,.box 28 [nA,nA,(.tsym 3 5),(.tsym 4 6)],.box 28 (nR 4),tk 81 8 5,tk 89 13 6] 7 47),
 rn [5,6,7] (eL 0 3 7 y1 [b67_5 0,.box 28 [(.tsym 3 5),(.tsym 4 6),(.tsym 5 7),nA],.box 28 (nR 4),tk 73 5 5,tk 77 6 6,tk 81 8 7] 8 47),
 rn [5,6,7] (eL 0 3 7 y1 [b67_5 0,.box 28 [(.tsym 3 5),(.tsym 4 6),nA,(.tsym 5 7)],.box 28 (nR 4),tk 73 5 5,tk 77 6 6,tk 89 13 7] 8 47),
 rn [5,6,7] (eL 0 3 7 y1 [b67_5 0,.box 28 [(.tsym 3 5),nA,(.tsym 4 6),(.tsym 5 7)],.box 28 (nR 4),tk 73 5 5,tk 81 8 6,tk 89 13 7] 8 47),
 rn [5,6,7] (eL 0 3 7 y1 [b67_5 0,.box 28 [nA,(.tsym 3 5),(.tsym 4 6),(.tsym 5 7)],.box 28 (nR 4),tk 77 6 5,tk 81 8 6,tk 89 13 7] 8 47),
 rn [5,6,7,8] (eL 0 3 7 y1 [b67_5 0,.box 28 [(.tsym 3 5),(.tsym 4 6),(.tsym 5 7),(.tsym 6 8)],.box 28 (nR 4),tk 73 5 5,tk 77 6 6,tk 81 8 7,tk 89 13 8] 9 47),
 eF 66 [(rA 0),o0,o1] [b67_5 2] 7 48,
 eF 29 [(rA 0)] [b67_5 0] 5 49,
 eF 30 [(rA 0),o0] [b67_5 1] 6 50,
 en72,
 eL 0 3 31 y0 [b67_5 0,.box 73 [o5,nA,nA,nA,o6],.box 73 [eA,nA,nA,nA,zA]] 7 52,
 rn [6] (eL 0 3 31 y0 [b67_5 0,.box 73 [o5,(.tsym 3 6),nA,nA,o7],.box 73 [eA,nA,nA,nA,zA],tk 9 1 6] 8 52),
 eL 2 3 31 y11 [b67_5 0,.box 73 [o5,nA,nA,nA,o6],.box 73 [eA,nA,nA,nA,zA]] 7 53,
 rn [6] (eL 2 4 31 y12 [b67_5 0,.box 73 [o5,(.tsym 2 6),nA,nA,o7],tk 9 1 6,.box 73 [eA,nA,nA,nA,zA]] 8 54),
 rn [6] (eL 2 3 31 y11 y17 8 53),
 rn [6] (eL 2 3 31 [(5,fA),(0,(rA 0)),(4,(rA 1)),(2,(rA 2))] y17 8 53),
 rn [6,7] (eL 2 4 31 y12 y13 9 54),
 rn [6,7] (eL 2 4 31 [(5,fA),(0,(rA 0)),(4,(rA 1)),(2,(rA 3))] y13 9 54),
 eL 4 4 31 [(0,(rA 0)),(7,(rA 1)),(4,(rA 2)),(2,(rA 3))] [b67_5 0,.box 109 [o5,nA,o6],.box 73 [o7,nA,nA,nA,o8],.box 73 [eA,nA,nA,nA,zA]] 9 55,
 rn [8] (eL 4 5 31 y8 [b67_5 0,.box 109 [o5,nA,o6],.box 73 [o7,nA,(.tsym 3 8),nA,o9],tk 109 3 8,.box 73 [eA,nA,nA,nA,zA]] 10 56),
 rn [8] (eL 4 5 31 y8 [b67_5 0,.box 109 [o5,nA,o6],.box 73 [o7,(.tsym 3 8),nA,nA,o9],tk 9 1 8,.box 73 [eA,nA,nA,nA,zA]] 10 56),
 rn [8,9] (eL 4 6 31 [(0,(rA 0)),(7,(rA 1)),(4,(rA 2)),(2,(rA 5))] [b67_5 0,.box 109 [o5,nA,o6],.box 73 [o7,(.tsym 3 8),(.tsym 4 9),nA,o10],tk 9 1 8,tk 109 3 9,.box 73 [eA,nA,nA,nA,zA]] 11 57),
 rn [6] (eL 4 4 31 [(0,(rA 0)),(7,(rA 1)),(4,(rA 2)),(2,(rA 3))] [b67_5 0,.box 109 [o5,(.tsym 4 6),o7],.box 73 [o8,nA,nA,nA,o9],.box 73 [eA,nA,nA,nA,zA],tk 47 4 6] 10 55),
 rn [6,9] (eL 4 5 31 y8 [b67_5 0,.box 109 [o5,(.tsym 5 6),o7],.box 73 [o8,nA,(.tsym 3 9),nA,o10],tk 109 3 9,.box 73 [eA,nA,nA,nA,zA],tk 47 4 6] 11 56),
 rn [6,9] (eL 4 5 31 y8 [b67_5 0,.box 109 [o5,(.tsym 5 6),o7],.box 73 [o8,(.tsym 3 9),nA,nA,o10],tk 9 1 9,.box 73 [eA,nA,nA,nA,zA],tk 47 4 6] 11 56),
 rn [6,9,10] (eL 4 6 31 [(0,(rA 0)),(7,(rA 1)),(4,(rA 2)),(2,(rA 5))] [b67_5 0,.box 109 [o5,(.tsym 6 6),o7],.box 73 [o8,(.tsym 3 9),(.tsym 4 10),nA,o11],tk 9 1 9,tk 109 3 10,.box 73 [eA,nA,nA,nA,zA],tk 47 4 6] 12 57),
 eF 34 [(rA 0),o0,o1] [b67_5 2] 7 58,
 en90,
 eL 0 3 32 y0 [b67_5 0,.box 77 (wR 5 3++[nA,nA,o8]),.box 77 [eA,eA,nA,nA,nA,zA]] 9 60,
 rn [8] (eL 0 3 32 y0 [b67_5 0,.box 77 (wR 5 3++[nA,(.tsym 3 8),o9]),.box 77 [eA,eA,nA,nA,nA,zA],tk 89 13 8] 10 60),
 rn [8] (eL 0 3 32 y0 [b67_5 0,.box 77 (wR 5 3++[(.tsym 3 8),nA,o9]),.box 77 [eA,eA,nA,nA,nA,zA],tk 119 6 8] 10 60),
 rn [8,9] (eL 0 3 32 y0 [b67_5 0,.box 77 (wR 5 3++[(.tsym 3 8),(.tsym 4 9),o10]),.box 77 [eA,eA,nA,nA,nA,zA],tk 119 6 8,tk 89 13 9] 11 60),
 en95,
 eL 0 3 33 y11 [b67_5 0,.box 81 (wR 5 5++[nA,nA,o10]),.box 81 [eA,zA,eA,zA,nA,nA,nA,zA]] 11 62,
 rn [10] (eL 0 3 33 y11 y14 12 62),
 rn [10] (eL 0 3 33 [(5,fA),(0,(rA 0)),(4,(rA 1)),(2,(rA 2))] y14 12 62),
 eL 2 3 33 y0 [b67_5 0,.box 81 (wR 5 5++[nA,nA,o10]),.box 81 [eA,zA,eA,zA,nA,nA,nA,zA]] 11 63,
 rn [10] (eL 2 4 33 y3 [b67_5 0,.box 81 (wR 5 5++[(.tsym 2 10),nA,o11]),tk 132 5 10,.box 81 [eA,zA,eA,zA,nA,nA,nA,zA]] 12 64),
 rn [10] (eL 2 3 33 y0 [b67_5 0,.box 81 (wR 5 5++[nA,(.tsym 3 10),o11]),.box 81 [eA,zA,eA,zA,nA,nA,nA,zA],tk 89 13 10] 12 63),
 rn [10,11] (eL 2 4 33 y3 [b67_5 0,.box 81 (wR 5 5++[(.tsym 2 10),(.tsym 4 11),o12]),tk 132 5 10,.box 81 [eA,zA,eA,zA,nA,nA,nA,zA],tk 89 13 11] 13 64),
 en103,
 eF 67 [(rA 0),o0] [b67_5 1] 6 66,
 en105,
 rn [0] (eL 0 2 70 [(0,(rA 0)),(3,(.tsym 1 0))] [b67_5 1,tk 9 1 0] 6 68),
 rn [0] (eL 0 2 70 [(0,(rA 0)),(3,(.tsym 2 0))] [b67_5 1,.dead,tk 9 1 0] 6 68),
 eF 68 [(rA 0),o0] [b67_5 1] 6 69,
 en109,
 eF 71 [(rA 0)] [b67_5 0] 5 71,
 en111,
 eL 0 3 72 y0 [b67_5 0,.box 47 (wR 5 3++[nA]),.box 47 [zA,eA,zA,nA]] 8 73,
 rn [8] (eL 0 3 72 y0 [b67_5 0,.box 47 (wR 5 3++[(.tsym 3 8)]),.box 47 [zA,eA,zA,nA],tk 47 4 8] 9 73),
 en114,
 rn [0] (eL 0 3 73 [(0,(rA 0)),(4,nA),(5,nA),(3,(.tsym 1 0)),(2,(rA 2))] [b67_5 1,tk 87 11 0,.box 87 ([zA,eA,zA,zA,eA,zA]++nR 4++[zA])] 6 75),
 rn [0,1,2] (eL 0 3 73 [(0,(rA 0)),(4,(.tsym 3 0)),(5,(.tsym 4 1)),(3,(.tsym 5 2)),(2,(rA 2))] [b67_5 3,.dead,.box 87 ([zA,eA,zA,zA,eA,zA]++nR 4++[zA]),tk 69 4 0,tk 9 1 1,tk 87 11 2] 8 75),
 eF 101 [(rA 0)] [b67_5 0] 5 76,
 en118,
 rn [11] (eL 0 4 102 y3 [b67_5 0,.box 87 (wR 5 6++[nA,nA,nA,(.tsym 2 11),o12]),tk 89 13 11,.box 87 ([zA,eA,zA,zA,eA,zA]++nR 4++[zA])] 13 78),
 rn [11] (eL 0 4 102 y3 [b67_5 0,.box 87 (wR 5 6++[nA,nA,nA,(.tsym 4 11),o12]),.dead,.box 87 ([zA,eA,zA,zA,eA,zA]++nR 4++[zA]),tk 89 13 11] 13 78),
 eL 2 4 102 [(0,(rA 0)),(8,(rA 1)),(3,(rA 2)),(2,(rA 3))] [b67_5 0,b87_11 5,b69_4 16,.box 87 ([zA,eA,zA,zA,eA,zA]++nR 4++[zA])] 20 79,
 rn [11] (eL 2 4 102 [(0,(rA 0)),(8,(rA 1)),(3,(rA 2)),(2,(rA 3))] [b67_5 0,.box 87 (wR 5 6++[nA,(.tsym 4 11),nA,nA,o12]),b69_4 13,.box 87 ([zA,eA,zA,zA,eA,zA]++nR 4++[zA]),tk 87 11 11] 17 79),
 en123,
 en124,
 rn [11] (eL 1 4 136 y12 [b67_5 0,.box 87 (wR 5 6++[nA,(.tsym 2 11),nA,nA,o12]),tk 87 11 11,.box 87 ([zA,eA,zA,zA,eA,zA]++nR 4++[zA])] 13 82),
 rn [11,12] (eL 1 4 136 y12 y6 14 82),
 rn [11,12] (eL 1 4 136 [(5,fA),(0,(rA 0)),(4,(rA 1)),(2,(rA 3))] y6 14 82),
 en128,
 eL 0 3 151 [(3,tA),(0,(rA 0)),(4,(rA 1)),(2,(rA 2))] [b67_5 0,.box 178 (wR 5 3++[nA,o8]),.box 178 [zA,eA,zA,nA,zA]] 9 84,
 eL 0 3 151 [(3,tA),(0,(rA 0)),(4,(rA 1)),(2,(rA 2))] [b67_5 0,b178_5 5,.box 178 [zA,eA,zA,nA,zA]] 10 84,
 eL 0 3 151 [(3,fA),(0,(rA 0)),(4,(rA 1)),(2,(rA 2))] [b67_5 0,.box 178 (wR 5 3++[nA,o8]),.box 178 [zA,eA,zA,nA,zA]] 9 84,
 eL 0 3 151 [(3,fA),(0,(rA 0)),(4,(rA 1)),(2,(rA 2))] [b67_5 0,b178_5 5,.box 178 [zA,eA,zA,nA,zA]] 10 84,
 rn [8] (eL 0 3 151 [(3,tA),(0,(rA 0)),(4,(rA 1)),(2,(rA 2))] [b67_5 0,.box 178 (wR 5 3++[(.tsym 3 8),o9]),.box 178 [zA,eA,zA,nA,zA],tk 178 5 8] 10 84),
 en134,
 en135,
 en136,
 eL 0 2 11 y7 [b28_4 1,b28_4 5] 9 88,
 eL 2 2 11 [(6,o0),(2,(rA 0)),(3,(rA 1))] [b28_4 1,b28_4 5] 9 89,
 eL 4 2 11 [(7,o0),(2,(rA 0)),(3,(rA 1))] [b28_4 1,b28_4 5] 9 90,
 eF 25 [o0,o1] [] 2 91,
 eL 0 0 25 [(5,o0),(0,o1),(1,o2)] [] 3 92,
 eF 46 [(.agg (wR 0 5)),(.agg (wR 5 5))] [] 10 93,
 eL 0 2 46 y7 [b73_5 1,b73_5 6] 11 94,
 eF 47 [(.agg (wR 0 6)),(.agg (wR 6 6))] [] 12 95,
 eL 0 2 47 y7 [b77_6 1,b77_6 7] 13 96,
 eF 48 [(.agg (wR 0 8)),(.agg (wR 8 8))] [] 16 97,
 eL 0 2 48 y7 [b81_8 1,b81_8 9] 17 98,
 eF 49 [o0,o1] [] 2 99,
 eL 0 0 49 [(5,o0),(0,o1),(1,o2)] [] 3 100,
 eF 88 [o0,o1] [] 2 101,
 eL 0 0 88 [(5,o0),(0,o1),(1,o2)] [] 3 102,
 eF 89 [(.agg (wR 0 4)),(.agg (wR 4 4))] [] 8 103,
 eF 90 [(.agg (wR 0 11)),(.agg (wR 11 11))] [] 22 104,
 eL 0 2 90 y7 [b87_11 1,b87_11 12] 23 105,
 eL 2 2 90 [(6,o0),(2,(rA 0)),(3,(rA 1))] [b87_11 1,b87_11 12] 23 106,
 eF 122 [(.agg (wR 0 5)),(.agg (wR 5 5))] [] 10 107,
 eL 0 2 122 y7 [b178_5 1,b178_5 6] 11 108,
 en158,
 en159,
 en160,
 en161,
 en162,
 en163,
 en164,
 en165,
 en166,
 en167,
 en168,
 en169,
 en170,
 en171,
 en172,
 en173]
def shT:List (List Shape):=[
 [yU o0 1],
 [yE .ret [(4,o0)] [] 1,yE (.exit 0) [(7,o0),(8,o1),(6,o2)] [] 3],
 [yU o0 1],
 [yU o0 1],
 [yU o0 1],
 [yU o0 1],
 [yU o0 1],
 [yU o0 1],
 [yU o0 1],
 [yU o0 1],
 y4,
 [yU o0 1],
 [yU o0 1],
 y4,
 [yU (.tup (wR 0 3)) 3],
 [yE .ret [(4,o0),(5,o1),(6,o2)] [] 3,yE (.exit 0) [] [] 0],
 [yU o0 1],
 [yE (.exit 0) [(1,o0)] [] 1],
 [yU o0 1],
 [yE .ret [(2,o0)] [] 1,yE (.exit 0) [] [] 0],
 [yU o0 1],
 [yE (.exit 0) [(1,o0)] [] 1],
 [yE (.exit 2) [(1,o0),(0,o1)] [] 2],
 [yU (.tup [o0,o1]) 2],
 [yE .ret [(2,o0),(3,o1)] [] 2,yE (.exit 0) [(5,o0),(0,o1),(4,o2)] [] 3],
 [yE .ret [(2,o0),(3,o1)] [] 2,yE (.exit 2) [(7,o0),(4,o1)] [] 2],
 [yU o0 1],
 [yU o0 1],
 [yU o0 1],
 [yU o0 1],
 [yU o0 1],
 [yU o0 1],
 [yU (.tup (wR 0 3)) 3,yW (.tup [(.tsym 0 0),o1,o2]) [tk 69 4 0] 3 [0]],
 [yE .ret [(2,o0),(3,o1),(4,o2)] [] 3,yE (.exit 0) [(6,o0),(0,o1)] [] 2,yR (.exit 0) [(6,(.tsym 0 0)),(0,o1)] [tk 69 4 0] 2 [0]],
 [yU (.tup [(.agg (wR 0 4)),o4,o5]) 6],
 [yE (.exit 0) [(0,o8),(13,o9),(12,o10),(8,(rA 0)),(4,(rA 1))] [b69_4 0,b69_4 4] 11],
 [yU (.agg (wR 0 11)) 11,yW (.agg (wR 0 7++[(.tsym 0 7)]++wR 8 3)) [tk 87 11 7] 11 [7]],
 [yE (.exit 0) [(0,o11),(1,o12),(2,o13),(9,o14),(3,o15),(8,(rA 0))] [b87_11 0] 16],
 [yU o0 1],
 [yE .ret [(2,o0)] [] 1,yE (.exit 0) [] [] 0],
 [yE (.exit 2) [(4,o0),(0,o1),(3,o2)] [] 3],
 [yU o0 1],
 [yR .ret [(2,o0)] [tk 52 1 1] 2 [1],yR (.exit 0) [] [tk 52 1 0] 1 [0]],
 [yR .ret [(2,o0)] [tk 52 1 1] 2 [1],yR (.exit 2) [(4,o0),(3,(.tsym 0 1)),(0,o2)] [tk 52 1 1] 3 [1]],
 [yU o0 1],
 [yV (rA 0) [b67_5 0] 5],
 [yU (.tup [(.agg (wR 0 4)),o4,o5]) 6,yW (.tup [(.agg (wR 0 3++[(.tsym 0 3)])),o4,o5]) [tk 89 13 3] 6 [3],yW (.tup [(.agg [o0,o1,(.tsym 0 2),o3]),o4,o5]) [tk 81 8 2] 6 [2],yW (.tup [(.agg [o0,o1,(.tsym 0 2),(.tsym 1 3)]),o4,o5]) [tk 81 8 2,tk 89 13 3] 6 [2,3],yW (.tup [(.agg [o0,(.tsym 0 1),o2,o3]),o4,o5]) [tk 77 6 1] 6 [1],yW (.tup [(.agg [o0,(.tsym 0 1),o2,(.tsym 1 3)]),o4,o5]) [tk 77 6 1,tk 89 13 3] 6 [1,3],yW (.tup [(.agg [o0,(.tsym 0 1),(.tsym 1 2),o3]),o4,o5]) [tk 77 6 1,tk 81 8 2] 6 [1,2],yW (.tup [(.agg [o0,(.tsym 0 1),(.tsym 1 2),(.tsym 2 3)]),o4,o5]) [tk 77 6 1,tk 81 8 2,tk 89 13 3] 6 [1,2,3],yW (.tup [(.agg ([(.tsym 0 0)]++wR 1 3)),o4,o5]) [tk 73 5 0] 6 [0],yW (.tup [(.agg [(.tsym 0 0),o1,o2,(.tsym 1 3)]),o4,o5]) [tk 73 5 0,tk 89 13 3] 6 [0,3],yW (.tup [(.agg [(.tsym 0 0),o1,(.tsym 1 2),o3]),o4,o5]) [tk 73 5 0,tk 81 8 2] 6 [0,2],yW (.tup [(.agg [(.tsym 0 0),o1,(.tsym 1 2),(.tsym 2 3)]),o4,o5]) [tk 73 5 0,tk 81 8 2,tk 89 13 3] 6 [0,2,3],yW (.tup [(.agg [(.tsym 0 0),(.tsym 1 1),o2,o3]),o4,o5]) [tk 73 5 0,tk 77 6 1] 6 [0,1],yW (.tup [(.agg [(.tsym 0 0),(.tsym 1 1),o2,(.tsym 2 3)]),o4,o5]) [tk 73 5 0,tk 77 6 1,tk 89 13 3] 6 [0,1,3],yW (.tup [(.agg [(.tsym 0 0),(.tsym 1 1),(.tsym 2 2),o3]),o4,o5]) [tk 73 5 0,tk 77 6 1,tk 81 8 2] 6 [0,1,2],yW (.tup [(.agg [(.tsym 0 0),(.tsym 1 1),(.tsym 2 2),(.tsym 3 3)]),o4,o5]) [tk 73 5 0,tk 77 6 1,tk 81 8 2,tk 89 13 3] 6 [0,1,2,3]],
 [yE (.exit 0) y2 [b67_5 0,b28_4 5,b28_4 9] 13,yR (.exit 0) y2 [b67_5 0,.box 28 ([(.tsym 3 5)]++wR 6 3),b28_4 9,tk 73 5 5] 13 [5],yR (.exit 0) y2 [b67_5 0,.box 28 [o5,(.tsym 3 6),o7,o8],b28_4 9,tk 77 6 6] 13 [6],yR (.exit 0) y2 [b67_5 0,.box 28 [o5,o6,(.tsym 3 7),o8],b28_4 9,tk 81 8 7] 13 [7],yR (.exit 0) y2 [b67_5 0,.box 28 (wR 5 3++[(.tsym 3 8)]),b28_4 9,tk 89 13 8] 13 [8],yR (.exit 0) y2 [b67_5 0,.box 28 [(.tsym 3 5),(.tsym 4 6),o7,o8],b28_4 9,tk 73 5 5,tk 77 6 6] 13 [5,6],yR (.exit 0) y2 [b67_5 0,.box 28 [(.tsym 3 5),o6,(.tsym 4 7),o8],b28_4 9,tk 73 5 5,tk 81 8 7] 13 [5,7],yR (.exit 0) y2 [b67_5 0,.box 28 [(.tsym 3 5),o6,o7,(.tsym 4 8)],b28_4 9,tk 73 5 5,tk 89 13 8] 13 [5,8],yR (.exit 0) y2 [b67_5 0,.box 28 [o5,(.tsym 3 6),(.tsym 4 7),o8],b28_4 9,tk 77 6 6,tk 81 8 7] 13 [6,7],yR (.exit 0) y2 [b67_5 0,.box 28 [o5,(.tsym 3 6),o7,(.tsym 4 8)],b28_4 9,tk 77 6 6,tk 89 13 8] 13 [6,8],yR (.exit 0) y2 [b67_5 0,.box 28 [o5,o6,(.tsym 3 7),(.tsym 4 8)],b28_4 9,tk 81 8 7,tk 89 13 8] 13 [7,8],yR (.exit 0) y2 [b67_5 0,.box 28 [(.tsym 3 5),(.tsym 4 6),(.tsym 5 7),o8],b28_4 9,tk 73 5 5,tk 77 6 6,tk 81 8 7] 13 [5,6,7],yR (.exit 0) y2 [b67_5 0,.box 28 [(.tsym 3 5),(.tsym 4 6),o7,(.tsym 5 8)],b28_4 9,tk 73 5 5,tk 77 6 6,tk 89 13 8] 13 [5,6,8],yR (.exit 0) y2 [b67_5 0,.box 28 [(.tsym 3 5),o6,(.tsym 4 7),(.tsym 5 8)],b28_4 9,tk 73 5 5,tk 81 8 7,tk 89 13 8] 13 [5,7,8],yR (.exit 0) y2 [b67_5 0,.box 28 [o5,(.tsym 3 6),(.tsym 4 7),(.tsym 5 8)],b28_4 9,tk 77 6 6,tk 81 8 7,tk 89 13 8] 13 [6,7,8],yR (.exit 0) y2 [b67_5 0,.box 28 [(.tsym 3 5),(.tsym 4 6),(.tsym 5 7),(.tsym 6 8)],b28_4 9,tk 73 5 5,tk 77 6 6,tk 81 8 7,tk 89 13 8] 13 [5,6,7,8]],
 [yV (.tup []) [b67_5 0] 5],
 y5,
 [yV o5 [b67_5 0] 6],
 [yV (.agg (wR 5 5)) [b67_5 0] 10,yW (.agg (wR 5 3++[(.tsym 1 8),o9])) [b67_5 0,tk 9 1 8] 10 [8],yW (.agg [o5,o6,(.tsym 1 7),o8,o9]) [b67_5 0,tk 109 3 7] 10 [7],yW (.agg [o5,o6,(.tsym 1 7),(.tsym 2 8),o9]) [b67_5 0,tk 109 3 7,tk 9 1 8] 10 [7,8],yW (.agg ([o5,(.tsym 1 6)]++wR 7 3)) [b67_5 0,tk 9 1 6] 10 [6],yW (.agg [o5,(.tsym 1 6),o7,(.tsym 2 8),o9]) [b67_5 0,tk 9 1 6,tk 9 1 8] 10 [6,8],yW (.agg [o5,(.tsym 1 6),(.tsym 2 7),o8,o9]) [b67_5 0,tk 9 1 6,tk 109 3 7] 10 [6,7],yW (.agg [o5,(.tsym 1 6),(.tsym 2 7),(.tsym 3 8),o9]) [b67_5 0,tk 9 1 6,tk 109 3 7,tk 9 1 8] 10 [6,7,8]],
 [yE (.exit 0) y0 [b67_5 0,b73_5 5,b73_5 10] 15,yR (.exit 0) y0 [b67_5 0,.box 73 ([o5,(.tsym 3 6)]++wR 7 3),b73_5 10,tk 9 1 6] 15 [6]],
 [yE (.exit 2) y0 [b67_5 0,b73_5 5,b73_5 10] 15,yR (.exit 2) y0 [b67_5 0,.box 73 [o5,o6,(.tsym 3 7),o8,o9],b73_5 10,tk 109 3 7] 15 [7]],
 [yR (.exit 2) y3 [b67_5 0,.box 73 ([o5,(.tsym 2 6)]++wR 7 3),tk 9 1 6,b73_5 10] 15 [6],yR (.exit 2) y3 [b67_5 0,.box 73 [o5,(.tsym 2 6),(.tsym 4 7),o8,o9],tk 9 1 6,b73_5 10,tk 109 3 7] 15 [6,7]],
 [yE (.exit 4) [(4,(rA 2)),(7,(rA 1)),(0,(rA 0)),(2,(rA 3))] [b67_5 0,b109_3 5,b73_5 8,b73_5 13] 18,yR (.exit 4) [(4,(rA 2)),(7,(rA 1)),(0,(rA 0)),(2,(rA 3))] [b67_5 0,.box 109 [o5,(.tsym 4 6),o7],b73_5 8,b73_5 13,tk 47 4 6] 18 [6]],
 [yR (.exit 4) y9 [b67_5 0,b109_3 5,.box 73 [o8,o9,(.tsym 3 10),o11,o12],tk 109 3 10,b73_5 13] 18 [10],yR (.exit 4) y9 [b67_5 0,b109_3 5,.box 73 ([o8,(.tsym 3 9)]++wR 10 3),tk 9 1 9,b73_5 13] 18 [9],yR (.exit 4) y9 [b67_5 0,.box 109 [o5,(.tsym 5 6),o7],.box 73 [o8,o9,(.tsym 3 10),o11,o12],tk 109 3 10,b73_5 13,tk 47 4 6] 18 [6,10],yR (.exit 4) y9 [b67_5 0,.box 109 [o5,(.tsym 5 6),o7],.box 73 ([o8,(.tsym 3 9)]++wR 10 3),tk 9 1 9,b73_5 13,tk 47 4 6] 18 [6,9]],
 [yR (.exit 4) [(4,(rA 2)),(7,(rA 1)),(0,(rA 0)),(2,(rA 5))] [b67_5 0,b109_3 5,.box 73 [o8,(.tsym 3 9),(.tsym 4 10),o11,o12],tk 9 1 9,tk 109 3 10,b73_5 13] 18 [9,10],yR (.exit 4) [(4,(rA 2)),(7,(rA 1)),(0,(rA 0)),(2,(rA 5))] [b67_5 0,.box 109 [o5,(.tsym 6 6),o7],.box 73 [o8,(.tsym 3 9),(.tsym 4 10),o11,o12],tk 9 1 9,tk 109 3 10,b73_5 13,tk 47 4 6] 18 [6,9,10]],
 y5,
 [yV (.agg (wR 5 6)) [b67_5 0] 11,yW (.agg (wR 5 4++[(.tsym 1 9),o10])) [b67_5 0,tk 89 13 9] 11 [9],yW (.agg (wR 5 3++[(.tsym 1 8),o9,o10])) [b67_5 0,tk 119 6 8] 11 [8],yW (.agg (wR 5 3++[(.tsym 1 8),(.tsym 2 9),o10])) [b67_5 0,tk 119 6 8,tk 89 13 9] 11 [8,9],yW (.agg ([o5,o6,(.tsym 1 7)]++wR 8 3)) [b67_5 0,tk 9 1 7] 11 [7],yW (.agg [o5,o6,(.tsym 1 7),o8,(.tsym 2 9),o10]) [b67_5 0,tk 9 1 7,tk 89 13 9] 11 [7,9],yW (.agg [o5,o6,(.tsym 1 7),(.tsym 2 8),o9,o10]) [b67_5 0,tk 9 1 7,tk 119 6 8] 11 [7,8],yW (.agg [o5,o6,(.tsym 1 7),(.tsym 2 8),(.tsym 3 9),o10]) [b67_5 0,tk 9 1 7,tk 119 6 8,tk 89 13 9] 11 [7,8,9]],
 [yE (.exit 0) y15 [b67_5 0,b77_6 5,b77_6 11] 17,yR (.exit 0) y15 [b67_5 0,.box 77 (wR 5 4++[(.tsym 3 9),o10]),b77_6 11,tk 89 13 9] 17 [9],yR (.exit 0) y15 [b67_5 0,.box 77 (wR 5 3++[(.tsym 3 8),o9,o10]),b77_6 11,tk 119 6 8] 17 [8],yR (.exit 0) y15 [b67_5 0,.box 77 (wR 5 3++[(.tsym 3 8),(.tsym 4 9),o10]),b77_6 11,tk 119 6 8,tk 89 13 9] 17 [8,9]],
 [yV (.agg (wR 5 8)) [b67_5 0] 13,yW (.agg (wR 5 6++[(.tsym 1 11),o12])) [b67_5 0,tk 89 13 11] 13 [11],yW (.agg (wR 5 5++[(.tsym 1 10),o11,o12])) [b67_5 0,tk 132 5 10] 13 [10],yW (.agg (wR 5 5++[(.tsym 1 10),(.tsym 2 11),o12])) [b67_5 0,tk 132 5 10,tk 89 13 11] 13 [10,11]],
 [yE (.exit 0) y0 [b67_5 0,b81_8 5,b81_8 13] 21,yR (.exit 0) y0 [b67_5 0,.box 81 (wR 5 5++[(.tsym 3 10),o11,o12]),b81_8 13,tk 132 5 10] 21 [10]],
 [yE (.exit 2) y15 [b67_5 0,b81_8 5,b81_8 13] 21,yR (.exit 2) y15 [b67_5 0,.box 81 (wR 5 6++[(.tsym 3 11),o12]),b81_8 13,tk 89 13 11] 21 [11]],
 [yR (.exit 2) [(4,(rA 1)),(2,(rA 3))] [b67_5 0,.box 81 (wR 5 5++[(.tsym 2 10),o11,o12]),tk 132 5 10,b81_8 13] 21 [10],yR (.exit 2) [(4,(rA 1)),(2,(rA 3))] [b67_5 0,.box 81 (wR 5 5++[(.tsym 2 10),(.tsym 4 11),o12]),tk 132 5 10,b81_8 13,tk 89 13 11] 21 [10,11]],
 [yV (.agg (wR 5 13)) [b67_5 0] 18],
 [yV o5 [b67_5 0] 6],
 [yW (.tsym 1 5) [b67_5 0,tk 9 1 5] 6 [5]],
 [yR (.exit 0) [(3,(.tsym 1 5))] [b67_5 0,tk 9 1 5] 6 [5],yR (.exit 0) [(3,(.tsym 2 5))] [b67_5 0,.dead,tk 9 1 5] 6 [5]],
 [yV o5 [b67_5 0] 6],
 y5,
 y5,
 [yV (.agg (wR 5 4)) [b67_5 0] 9,yW (.agg (wR 5 3++[(.tsym 1 8)])) [b67_5 0,tk 47 4 8] 9 [8]],
 [yE (.exit 0) y0 [b67_5 0,b47_4 5,b47_4 9] 13,yR (.exit 0) y0 [b67_5 0,.box 47 (wR 5 3++[(.tsym 3 8)]),b47_4 9,tk 47 4 8] 13 [8]],
 y10,
 [yR (.exit 0) [(0,(rA 0)),(2,(rA 2)),(5,o16),(4,o17),(3,(.tsym 1 18))] [b67_5 0,tk 87 11 18,b87_11 5] 19 [18],yR (.exit 0) [(0,(rA 0)),(2,(rA 2)),(5,(.tsym 3 16)),(4,(.tsym 4 17)),(3,(.tsym 5 18))] [b67_5 0,.dead,b87_11 5,tk 9 1 16,tk 69 4 17,tk 87 11 18] 19 [16,17,18]],
 [yV (.tup []) [b67_5 0] 5],
 [yV (.agg (wR 5 11)) [b67_5 0] 16,yW (.agg (wR 5 7++[(.tsym 1 12),o13,(.tsym 2 14),o15])) [b67_5 0,tk 87 11 12,tk 89 13 14] 16 [12,14],yW (.agg (wR 5 7++[(.tsym 1 12),(.tsym 2 13),(.tsym 3 14),o15])) [b67_5 0,tk 87 11 12,tk 180 16 13,tk 89 13 14] 16 [12,13,14],yW (.agg (wR 5 6++[(.tsym 1 11),(.tsym 2 12),o13,(.tsym 3 14),o15])) [b67_5 0,tk 47 4 11,tk 87 11 12,tk 89 13 14] 16 [11,12,14],yW (.agg (wR 5 6++[(.tsym 1 11),(.tsym 2 12),(.tsym 3 13),(.tsym 4 14),o15])) [b67_5 0,tk 47 4 11,tk 87 11 12,tk 180 16 13,tk 89 13 14] 16 [11,12,13,14],yW (.agg (wR 5 7++[(.tsym 1 12)]++wR 13 3)) [b67_5 0,tk 87 11 12] 16 [12],yW (.agg (wR 5 9++[(.tsym 1 14),o15])) [b67_5 0,tk 89 13 14] 16 [14],yW (.agg (wR 5 8++[(.tsym 1 13),o14,o15])) [b67_5 0,tk 180 16 13] 16 [13],yW (.agg (wR 5 8++[(.tsym 1 13),(.tsym 2 14),o15])) [b67_5 0,tk 180 16 13,tk 89 13 14] 16 [13,14],yW (.agg (wR 5 7++[(.tsym 1 12),(.tsym 2 13),o14,o15])) [b67_5 0,tk 87 11 12,tk 180 16 13] 16 [12,13],yW (.agg (wR 5 6++[(.tsym 1 11)]++wR 12 4)) [b67_5 0,tk 47 4 11] 16 [11],yW (.agg (wR 5 6++[(.tsym 1 11),o12,o13,(.tsym 2 14),o15])) [b67_5 0,tk 47 4 11,tk 89 13 14] 16 [11,14],yW (.agg (wR 5 6++[(.tsym 1 11),o12,(.tsym 2 13),o14,o15])) [b67_5 0,tk 47 4 11,tk 180 16 13] 16 [11,13],yW (.agg (wR 5 6++[(.tsym 1 11),o12,(.tsym 2 13),(.tsym 3 14),o15])) [b67_5 0,tk 47 4 11,tk 180 16 13,tk 89 13 14] 16 [11,13,14],yW (.agg (wR 5 6++[(.tsym 1 11),(.tsym 2 12)]++wR 13 3)) [b67_5 0,tk 47 4 11,tk 87 11 12] 16 [11,12],yW (.agg (wR 5 6++[(.tsym 1 11),(.tsym 2 12),(.tsym 3 13),o14,o15])) [b67_5 0,tk 47 4 11,tk 87 11 12,tk 180 16 13] 16 [11,12,13]],
 [yR (.exit 0) y3 [b67_5 0,.box 87 (wR 5 9++[(.tsym 2 14),o15]),tk 89 13 14,b87_11 16] 27 [14],yR (.exit 0) y3 [b67_5 0,.box 87 (wR 5 9++[(.tsym 4 14),o15]),.dead,b87_11 16,tk 89 13 14] 27 [14]],
 [yE (.exit 2) [(8,(rA 1)),(2,(rA 3))] [b67_5 0,b87_11 5,b69_4 16,b87_11 20] 31,yR (.exit 2) [(8,(rA 1)),(2,(rA 3))] [b67_5 0,.box 87 (wR 5 7++[(.tsym 4 12)]++wR 13 3),b69_4 16,b87_11 20,tk 87 11 12] 31 [12]],
 [yW (.agg (wR 5 7++[(.tsym 1 12)]++wR 13 3)) [b67_5 0,tk 87 11 12] 16 [12]],
 [yV (.agg (wR 5 11)) [b67_5 0] 16,yW (.agg (wR 5 7++[(.tsym 1 12)]++wR 13 3)) [b67_5 0,tk 87 11 12] 16 [12],yW (.agg (wR 5 7++[(.tsym 1 12),o13,(.tsym 2 14),o15])) [b67_5 0,tk 87 11 12,tk 89 13 14] 16 [12,14],yW (.agg (wR 5 7++[(.tsym 1 12),(.tsym 2 13),o14,o15])) [b67_5 0,tk 87 11 12,tk 180 16 13] 16 [12,13],yW (.agg (wR 5 7++[(.tsym 1 12),(.tsym 2 13),(.tsym 3 14),o15])) [b67_5 0,tk 87 11 12,tk 180 16 13,tk 89 13 14] 16 [12,13,14],yW (.agg (wR 5 6++[(.tsym 1 11),(.tsym 2 12)]++wR 13 3)) [b67_5 0,tk 47 4 11,tk 87 11 12] 16 [11,12],yW (.agg (wR 5 6++[(.tsym 1 11),(.tsym 2 12),o13,(.tsym 3 14),o15])) [b67_5 0,tk 47 4 11,tk 87 11 12,tk 89 13 14] 16 [11,12,14],yW (.agg (wR 5 6++[(.tsym 1 11),(.tsym 2 12),(.tsym 3 13),o14,o15])) [b67_5 0,tk 47 4 11,tk 87 11 12,tk 180 16 13] 16 [11,12,13],yW (.agg (wR 5 6++[(.tsym 1 11),(.tsym 2 12),(.tsym 3 13),(.tsym 4 14),o15])) [b67_5 0,tk 47 4 11,tk 87 11 12,tk 180 16 13,tk 89 13 14] 16 [11,12,13,14]],
 [yR (.exit 1) y3 [b67_5 0,.box 87 (wR 5 7++[(.tsym 2 12)]++wR 13 3),tk 87 11 12,b87_11 16] 27 [12],yR (.exit 1) y3 [b67_5 0,.box 87 (wR 5 7++[(.tsym 2 12),(.tsym 4 13),o14,o15]),tk 87 11 12,b87_11 16,tk 180 16 13] 27 [12,13]],
 [yV (.agg (wR 5 5)) [b67_5 0] 10,yW (.agg (wR 5 3++[(.tsym 1 8),o9])) [b67_5 0,tk 178 5 8] 10 [8]],
 [yE (.exit 0) y0 [b67_5 0,b178_5 5,b178_5 10] 15,yR (.exit 0) y0 [b67_5 0,.box 178 (wR 5 3++[(.tsym 3 8),o9]),b178_5 10,tk 178 5 8] 15 [8]],
 y16,
 [yU (.agg (wR 0 3)) 3],
 [yU o0 1],
 [yE .ret [(4,o8)] [b28_4 0,b28_4 4] 9,yE (.exit 0) [(2,(rA 0)),(3,(rA 1))] [b28_4 0,b28_4 4] 8],
 [yE .ret [(4,o8)] [b28_4 0,b28_4 4] 9,yE (.exit 2) [(2,(rA 0)),(3,(rA 1))] [b28_4 0,b28_4 4] 8],
 [yE .ret [(4,o8)] [b28_4 0,b28_4 4] 9,yE (.exit 4) [(2,(rA 0)),(3,(rA 1))] [b28_4 0,b28_4 4] 8],
 [yU o0 1],
 y4,
 [yU o0 1],
 [yE .ret [(4,o10)] [b73_5 0,b73_5 5] 11,yE (.exit 0) [] [b73_5 0,b73_5 5] 10],
 [yU o0 1],
 [yE .ret [(4,o12)] [b77_6 0,b77_6 6] 13,yE (.exit 0) [(2,(rA 0)),(3,(rA 1))] [b77_6 0,b77_6 6] 12],
 [yU o0 1],
 [yE .ret [(4,o16)] [b81_8 0,b81_8 8] 17,yE (.exit 0) [(2,(rA 0)),(3,(rA 1))] [b81_8 0,b81_8 8] 16],
 [yU o0 1],
 y4,
 [yU o0 1],
 y4,
 [yU o0 1],
 [yU o0 1],
 [yE .ret [(4,o22)] [b87_11 0,b87_11 11] 23,yE (.exit 0) [(2,(rA 0)),(3,(rA 1))] [b87_11 0,b87_11 11] 22],
 [yE .ret [(4,o22)] [b87_11 0,b87_11 11] 23,yE (.exit 2) [] [b87_11 0,b87_11 11] 22],
 [yU o0 1],
 [yE .ret [(4,o10)] [b178_5 0,b178_5 5] 11,yE (.exit 0) [] [b178_5 0,b178_5 5] 10],
 [yU (.agg (wR 0 11)) 11],
 [yU (.tup (wR 0 3)) 3],
 y16,
 [yV (.agg (wR 5 6)) [b67_5 0] 11],
 [yV (.agg (wR 5 8)) [b67_5 0] 13],
 [yV (.agg (wR 5 13)) [b67_5 0] 18],
 [yV o5 [b67_5 0] 6],
 y5,
 y5,
 y10,
 y10,
 y10,
 y10,
 y16,
 y16,
 [yU (.tup [(.agg (wR 0 4)),o4,o5]) 6]]
def etL:List Et:=[k2 g124,k4 g124b0a,k4 g124b0b,k4 g124b0c,k1 g125,k1 g127,k1 g130,k1 g131,k1 g132,k1 g133,k1 g134,k2 g147,k3 g147b0a,k1 g148,k2 g150,k3 g150b0a,k2 g126,k2 g126b0a,k3 g126b0b,k3 g128,k3 g128b0a,k1 g98,k2 g98b0a,k2 g99,k2 g99b0a,k2 g99b2a,k1 g129,k2 g129b0a,k2 g129b0b,k3 g129b2a,k3 g129b2b,k1 g149g0,k1 g149g1,k2 g152,k1 g153,k1 g155,k1 g156,k1 g65,k2 g65b0a,k3 g65b0b,k2 g100,k4 g100b0a,k4 g104,k6 g104b0a,k1 g103,k2 g103b0a,k3 g103b2a,k1 g137,k3 g137b0a,k4 g137b2a,k1 g138,k1 g28,k1 g7,k5 g7b0a,k6 g7b0b,k6 g7b0c,k6 g7b0d,k6 g7b0e,k7 g7b0f,k7 g7b0g,k7 g7b0h,k7 g7b0i,k7 g7b0j,k7 g7b0k,k8 g7b0l,k8 g7b0m,k8 g7b0n,k8 g7b0o,k9 g7b0p,k7 g66a,k5 g29a,k6 g30a,k5 g31a,k7 g31ab0a,k8 g31ab0b,k7 g31ab2a,k8 g31ab2e,k8 g31ab2i,k8 g31ab2j,k9 g31ab2q,k9 g31ab2r,k9 g31ab4a,k10 g31ab4c,k10 g31ab4e,k11 g31ab4g,k10 g31ab4i,k11 g31ab4k,k11 g31ab4m,k12 g31ab4o,k7 g34a,k5 g32a,k9 g32ab0a,k10 g32ab0c,k10 g32ab0d,k11 g32ab0g,k5 g33a,k11 g33ab0a,k12 g33ab0b,k12 g33ab0c,k11 g33ab2a,k12 g33ab2c,k12 g33ab2e,k13 g33ab2g,k5 g35a,k6 g67a,k5 g70a,k6 g70ab0a,k6 g70ab0b,k6 g68a,k5 g69a,k5 g71a,k5 g72a,k8 g72ab0a,k9 g72ab0b,k5 g73a,k6 g73ab0a,k8 g73ab0b,k5 g101a,k5 g102a,k13 g102ab0a,k13 g102ab0b,k20 g102ab2a,k17 g102ab2b,k6 g135a,k5 g136a,k13 g136ab1a,k14 g136ab1b,k14 g136ab1c,k5 g151a,k9 g151ab0a,k10 g151ab0b,k9 g151ab0c,k10 g151ab0d,k10 g151ab0e,k5 g154a,k4 g10,k8 g11,k9 g11b0a,k9 g11b2a,k9 g11b4a,k2 g25,k3 g25b0a,k10 g46,k11 g46b0a,k12 g47,k13 g47b0a,k16 g48,k17 g48b0a,k2 g49,k3 g49b0a,k2 g88,k3 g88b0a,k8 g89,k22 g90,k23 g90b0a,k23 g90b2a,k10 g122,k11 g122b0a,etNo,etNo,etNo,etNo,etNo,etNo,etNo,etNo,etNo,etNo,etNo,etNo,etNo,etNo,etNo,etNo]
def SS:Nat→List Shape:=nth [] shT
def EE:Nat→Ent:=nth dEn enL
def TT:Nat→Et:=nth etNo etL
noncomputable abbrev ev:Q→Option Rs:=Evl PG EE TT
abbrev hh1(F:PV→Q)(G:PV→Sm):Prop:=∀a O,body PG EE TT O (F a)=G a O
abbrev hh2(F:PV→PV→Q)(G:PV→PV→Sm):Prop:=∀a b O,body PG EE TT O (F a b)=G a b O
abbrev hh3(F:PV→PV→PV→Q)(G:PV→PV→PV→Sm):Prop:=∀a b c O,body PG EE TT O (F a b c)=G a b c O
abbrev hh4(F:PV→PV→PV→PV→Q)(G:PV→PV→PV→PV→Sm):Prop:=∀a b c d O,body PG EE TT O (F a b c d)=G a b c d O
abbrev hh5(F:PV→PV→PV→PV→PV→Q)(G:PV→PV→PV→PV→PV→Sm):Prop:=∀a b c d e O,body PG EE TT O (F a b c d e)=G a b c d e O
abbrev hh6(F:PV→PV→PV→PV→PV→PV→Q)(G:PV→PV→PV→PV→PV→PV→Sm):Prop:=∀a b c d e f O,body PG EE TT O (F a b c d e f)=G a b c d e f O
abbrev hh7(F:PV→PV→PV→PV→PV→PV→PV→Q)(G:PV→PV→PV→PV→PV→PV→PV→Sm):Prop:=∀a b c d e f g O,body PG EE TT O (F a b c d e f g)=G a b c d e f g O
abbrev hh8(F:PV→PV→PV→PV→PV→PV→PV→PV→Q)(G:PV→PV→PV→PV→PV→PV→PV→PV→Sm):Prop:=∀a b c d e f g h O,body PG EE TT O (F a b c d e f g h)=G a b c d e f g h O
abbrev hh9(F:PV→PV→PV→PV→PV→PV→PV→PV→PV→Q)(G:PV→PV→PV→PV→PV→PV→PV→PV→PV→Sm):Prop:=∀a b c d e f g h i O,body PG EE TT O (F a b c d e f g h i)=G a b c d e f g h i O
abbrev hh10(F:PV→PV→PV→PV→PV→PV→PV→PV→PV→PV→Q)(G:PV→PV→PV→PV→PV→PV→PV→PV→PV→PV→Sm):Prop:=∀a b c d e f g h i j O,body PG EE TT O (F a b c d e f g h i j)=G a b c d e f g h i j O
abbrev hh11(F:PV→PV→PV→PV→PV→PV→PV→PV→PV→PV→PV→Q)(G:PV→PV→PV→PV→PV→PV→PV→PV→PV→PV→PV→Sm):Prop:=∀a b c d e f g h i j k O,body PG EE TT O (F a b c d e f g h i j k)=G a b c d e f g h i j k O
abbrev hh12(F:PV→PV→PV→PV→PV→PV→PV→PV→PV→PV→PV→PV→Q)(G:PV→PV→PV→PV→PV→PV→PV→PV→PV→PV→PV→PV→Sm):Prop:=∀a b c d e f g h i j k l O,body PG EE TT O (F a b c d e f g h i j k l)=G a b c d e f g h i j k l O
abbrev hh13(F:PV→PV→PV→PV→PV→PV→PV→PV→PV→PV→PV→PV→PV→Q)(G:PV→PV→PV→PV→PV→PV→PV→PV→PV→PV→PV→PV→PV→Sm):Prop:=∀a b c d e f g h i j k l m O,body PG EE TT O (F a b c d e f g h i j k l m)=G a b c d e f g h i j k l m O
abbrev hh16(F:PV→PV→PV→PV→PV→PV→PV→PV→PV→PV→PV→PV→PV→PV→PV→PV→Q)(G:PV→PV→PV→PV→PV→PV→PV→PV→PV→PV→PV→PV→PV→PV→PV→PV→Sm):Prop:=∀a b c d e f g h i j k l m n o p O,body PG EE TT O (F a b c d e f g h i j k l m n o p)=G a b c d e f g h i j k l m n o p O
abbrev hh17(F:PV→PV→PV→PV→PV→PV→PV→PV→PV→PV→PV→PV→PV→PV→PV→PV→PV→Q)(G:PV→PV→PV→PV→PV→PV→PV→PV→PV→PV→PV→PV→PV→PV→PV→PV→PV→Sm):Prop:=∀a b c d e f g h i j k l m n o p q O,body PG EE TT O (F a b c d e f g h i j k l m n o p q)=G a b c d e f g h i j k l m n o p q O
abbrev hh20(F:PV→PV→PV→PV→PV→PV→PV→PV→PV→PV→PV→PV→PV→PV→PV→PV→PV→PV→PV→PV→Q)(G:PV→PV→PV→PV→PV→PV→PV→PV→PV→PV→PV→PV→PV→PV→PV→PV→PV→PV→PV→PV→Sm):Prop:=∀a b c d e f g h i j k l m n o p q r s t O,body PG EE TT O (F a b c d e f g h i j k l m n o p q r s t)=G a b c d e f g h i j k l m n o p q r s t O
abbrev hh22(F:PV→PV→PV→PV→PV→PV→PV→PV→PV→PV→PV→PV→PV→PV→PV→PV→PV→PV→PV→PV→PV→PV→Q)(G:PV→PV→PV→PV→PV→PV→PV→PV→PV→PV→PV→PV→PV→PV→PV→PV→PV→PV→PV→PV→PV→PV→Sm):Prop:=∀a b c d e f g h i j k l m n o p q r s t u v O,body PG EE TT O (F a b c d e f g h i j k l m n o p q r s t u v)=G a b c d e f g h i j k l m n o p q r s t u v O
abbrev hh23(F:PV→PV→PV→PV→PV→PV→PV→PV→PV→PV→PV→PV→PV→PV→PV→PV→PV→PV→PV→PV→PV→PV→PV→Q)(G:PV→PV→PV→PV→PV→PV→PV→PV→PV→PV→PV→PV→PV→PV→PV→PV→PV→PV→PV→PV→PV→PV→PV→Sm):Prop:=∀a b c d e f g h i j k l m n o p q r s t u v w O,body PG EE TT O (F a b c d e f g h i j k l m n o p q r s t u v w)=G a b c d e f g h i j k l m n o p q r s t u v w O
abbrev RK(k:Nat):Prop:=RuleOk PG SS EE TT k
abbrev q124:=qq2 0
abbrev q124b0a:=qq4 1
abbrev q124b0b:=qq4 2
abbrev q124b0c:=qq4 3
abbrev q125:=qq1 4
abbrev q127:=qq1 5
abbrev q130:=qq1 6
abbrev q131:=qq1 7
abbrev q132:=qq1 8
abbrev q133:=qq1 9
abbrev q134:=qq1 10
abbrev q147:=qq2 11
abbrev q147b0a:=qq3 12
abbrev q148:=qq1 13
abbrev q150:=qq2 14
abbrev q150b0a:=qq3 15
abbrev q126:=qq2 16
abbrev q126b0a:=qq2 17
abbrev q126b0b(a b:PV)(c:List (List PV)):Q:=⟨18,[a,b,.rows c]⟩
abbrev q128:=qq3 19
abbrev q128b0a:=qq3 20
abbrev q98:=qq1 21
abbrev q98b0a:=qq2 22
abbrev q99:=qq2 23
abbrev q99b0a:=qq2 24
abbrev q99b2a:=qq2 25
abbrev q129:=qq1 26
abbrev q129b0a:=qq2 27
abbrev q129b0b:=qq2 28
abbrev q129b2a:=qq3 29
abbrev q129b2b:=qq3 30
abbrev q149g0:=qq1 31
abbrev q149g1:=qq1 32
abbrev q152:=qq2 33
abbrev q153:=qq1 34
abbrev q155:=qq1 35
abbrev q156:=qq1 36
abbrev q65:=qq1 37
abbrev q65b0a:=qq2 38
abbrev q65b0b(a b:PV)(c:List (List PV)):Q:=⟨39,[a,b,.rows c]⟩
abbrev q100:=qq2 40
abbrev q100b0a:=qq4 41
abbrev q104:=qq4 42
abbrev q104b0a:=qq6 43
abbrev q103:=qq1 44
abbrev q103b0a:=qq2 45
abbrev q103b2a:=qq3 46
abbrev q137:=qq1 47
abbrev q137b0a(a:PV)(b:List (List PV))(c:PV):Q:=⟨48,[a,.rows b,c]⟩
abbrev q137b2a(a:PV)(b:List (List PV))(c d:PV):Q:=⟨49,[a,.rows b,c,d]⟩
abbrev q138:=qq1 50
abbrev q28:=qq1 51
abbrev q7:=qq1 52
abbrev q7b0a:=qq5 53
abbrev q7b0b(a b c d e:PV)(f:List (List PV)):Q:=⟨54,[a,b,c,d,e,.rows f]⟩
abbrev q7b0c(a b c d e:PV)(f:List (List PV)):Q:=⟨55,[a,b,c,d,e,.rows f]⟩
abbrev q7b0d(a b c d e:PV)(f:List (List PV)):Q:=⟨56,[a,b,c,d,e,.rows f]⟩
abbrev q7b0e(a b c d e:PV)(f:List (List PV)):Q:=⟨57,[a,b,c,d,e,.rows f]⟩
abbrev q7b0f(a b c d e:PV)(f g:List (List PV)):Q:=⟨58,[a,b,c,d,e,.rows f,.rows g]⟩
abbrev q7b0g(a b c d e:PV)(f g:List (List PV)):Q:=⟨59,[a,b,c,d,e,.rows f,.rows g]⟩
abbrev q7b0h(a b c d e:PV)(f g:List (List PV)):Q:=⟨60,[a,b,c,d,e,.rows f,.rows g]⟩
abbrev q7b0i(a b c d e:PV)(f g:List (List PV)):Q:=⟨61,[a,b,c,d,e,.rows f,.rows g]⟩
abbrev q7b0j(a b c d e:PV)(f g:List (List PV)):Q:=⟨62,[a,b,c,d,e,.rows f,.rows g]⟩
abbrev q7b0k(a b c d e:PV)(f g:List (List PV)):Q:=⟨63,[a,b,c,d,e,.rows f,.rows g]⟩
abbrev q7b0l(a b c d e:PV)(f g h:List (List PV)):Q:=⟨64,[a,b,c,d,e,.rows f,.rows g,.rows h]⟩
abbrev q7b0m(a b c d e:PV)(f g h:List (List PV)):Q:=⟨65,[a,b,c,d,e,.rows f,.rows g,.rows h]⟩
abbrev q7b0n(a b c d e:PV)(f g h:List (List PV)):Q:=⟨66,[a,b,c,d,e,.rows f,.rows g,.rows h]⟩
abbrev q7b0o(a b c d e:PV)(f g h:List (List PV)):Q:=⟨67,[a,b,c,d,e,.rows f,.rows g,.rows h]⟩
abbrev q7b0p(a b c d e:PV)(f g h i:List (List PV)):Q:=⟨68,[a,b,c,d,e,.rows f,.rows g,.rows h,.rows i]⟩
abbrev q66a:=qq7 69
abbrev q29a:=qq5 70
abbrev q30a:=qq6 71
abbrev q31a:=qq5 72
abbrev q31ab0a:=qq7 73
abbrev q31ab0b(a b c d e f:PV)(g:List (List PV))(h:PV):Q:=⟨74,[a,b,c,d,e,f,.rows g,h]⟩
abbrev q31ab2a:=qq7 75
abbrev q31ab2e(a b c d e f:PV)(g:List (List PV))(h:PV):Q:=⟨76,[a,b,c,d,e,f,.rows g,h]⟩
abbrev q31ab2i(a b c d e f:PV)(g:List (List PV))(h:PV):Q:=⟨77,[a,b,c,d,e,f,.rows g,h]⟩
abbrev q31ab2j(a b c d e f:PV)(g:List (List PV))(h:PV):Q:=⟨78,[a,b,c,d,e,f,.rows g,h]⟩
abbrev q31ab2q(a b c d e f:PV)(g h:List (List PV))(i:PV):Q:=⟨79,[a,b,c,d,e,f,.rows g,.rows h,i]⟩
abbrev q31ab2r(a b c d e f:PV)(g h:List (List PV))(i:PV):Q:=⟨80,[a,b,c,d,e,f,.rows g,.rows h,i]⟩
abbrev q31ab4a:=qq9 81
abbrev q31ab4c(a b c d e f g h:PV)(i:List (List PV))(j:PV):Q:=⟨82,[a,b,c,d,e,f,g,h,.rows i,j]⟩
abbrev q31ab4e(a b c d e f g h:PV)(i:List (List PV))(j:PV):Q:=⟨83,[a,b,c,d,e,f,g,h,.rows i,j]⟩
abbrev q31ab4g(a b c d e f g h:PV)(i j:List (List PV))(k:PV):Q:=⟨84,[a,b,c,d,e,f,g,h,.rows i,.rows j,k]⟩
abbrev q31ab4i(a b c d e f:PV)(g:List (List PV))(h i j:PV):Q:=⟨85,[a,b,c,d,e,f,.rows g,h,i,j]⟩
abbrev q31ab4k(a b c d e f:PV)(g:List (List PV))(h i:PV)(j:List (List PV))(k:PV):Q:=⟨86,[a,b,c,d,e,f,.rows g,h,i,.rows j,k]⟩
abbrev q31ab4m(a b c d e f:PV)(g:List (List PV))(h i:PV)(j:List (List PV))(k:PV):Q:=⟨87,[a,b,c,d,e,f,.rows g,h,i,.rows j,k]⟩
abbrev q31ab4o(a b c d e f:PV)(g:List (List PV))(h i:PV)(j k:List (List PV))(l:PV):Q:=⟨88,[a,b,c,d,e,f,.rows g,h,i,.rows j,.rows k,l]⟩
abbrev q34a:=qq7 89
abbrev q32a:=qq5 90
abbrev q32ab0a:=qq9 91
abbrev q32ab0c(a b c d e f g h:PV)(i:List (List PV))(j:PV):Q:=⟨92,[a,b,c,d,e,f,g,h,.rows i,j]⟩
abbrev q32ab0d(a b c d e f g h:PV)(i:List (List PV))(j:PV):Q:=⟨93,[a,b,c,d,e,f,g,h,.rows i,j]⟩
abbrev q32ab0g(a b c d e f g h:PV)(i j:List (List PV))(k:PV):Q:=⟨94,[a,b,c,d,e,f,g,h,.rows i,.rows j,k]⟩
abbrev q33a:=qq5 95
abbrev q33ab0a:=qq11 96
abbrev q33ab0b(a b c d e f g h i j:PV)(k:List (List PV))(l:PV):Q:=⟨97,[a,b,c,d,e,f,g,h,i,j,.rows k,l]⟩
abbrev q33ab0c(a b c d e f g h i j:PV)(k:List (List PV))(l:PV):Q:=⟨98,[a,b,c,d,e,f,g,h,i,j,.rows k,l]⟩
abbrev q33ab2a:=qq11 99
abbrev q33ab2c(a b c d e f g h i j:PV)(k:List (List PV))(l:PV):Q:=⟨100,[a,b,c,d,e,f,g,h,i,j,.rows k,l]⟩
abbrev q33ab2e(a b c d e f g h i j:PV)(k:List (List PV))(l:PV):Q:=⟨101,[a,b,c,d,e,f,g,h,i,j,.rows k,l]⟩
abbrev q33ab2g(a b c d e f g h i j:PV)(k l:List (List PV))(m:PV):Q:=⟨102,[a,b,c,d,e,f,g,h,i,j,.rows k,.rows l,m]⟩
abbrev q35a:=qq5 103
abbrev q67a:=qq6 104
abbrev q70a:=qq5 105
abbrev q70ab0a(a:List (List PV))(b c d e f:PV):Q:=⟨106,[.rows a,b,c,d,e,f]⟩
abbrev q70ab0b(a:List (List PV))(b c d e f:PV):Q:=⟨107,[.rows a,b,c,d,e,f]⟩
abbrev q68a:=qq6 108
abbrev q69a:=qq5 109
abbrev q71a:=qq5 110
abbrev q72a:=qq5 111
abbrev q72ab0a:=qq8 112
abbrev q72ab0b(a b c d e f g h:PV)(i:List (List PV)):Q:=⟨113,[a,b,c,d,e,f,g,h,.rows i]⟩
abbrev q73a:=qq5 114
abbrev q73ab0a(a:List (List PV))(b c d e f:PV):Q:=⟨115,[.rows a,b,c,d,e,f]⟩
abbrev q73ab0b(a b c:List (List PV))(d e f g h:PV):Q:=⟨116,[.rows a,.rows b,.rows c,d,e,f,g,h]⟩
abbrev q101a:=qq5 117
abbrev q102a:=qq5 118
abbrev q102ab0a(a b c d e f g h i j k:PV)(l:List (List PV))(m:PV):Q:=⟨119,[a,b,c,d,e,f,g,h,i,j,k,.rows l,m]⟩
abbrev q102ab0b(a b c d e f g h i j k:PV)(l:List (List PV))(m:PV):Q:=⟨120,[a,b,c,d,e,f,g,h,i,j,k,.rows l,m]⟩
abbrev q102ab2a:=qq20 121
abbrev q102ab2b(a b c d e f g h i j k:PV)(l:List (List PV))(m n o p q:PV):Q:=⟨122,[a,b,c,d,e,f,g,h,i,j,k,.rows l,m,n,o,p,q]⟩
abbrev q135a:=qq6 123
abbrev q136a:=qq5 124
abbrev q136ab1a(a b c d e f g h i j k:PV)(l:List (List PV))(m:PV):Q:=⟨125,[a,b,c,d,e,f,g,h,i,j,k,.rows l,m]⟩
abbrev q136ab1b(a b c d e f g h i j k:PV)(l m:List (List PV))(n:PV):Q:=⟨126,[a,b,c,d,e,f,g,h,i,j,k,.rows l,.rows m,n]⟩
abbrev q136ab1c(a b c d e f g h i j k:PV)(l m:List (List PV))(n:PV):Q:=⟨127,[a,b,c,d,e,f,g,h,i,j,k,.rows l,.rows m,n]⟩
abbrev q151a:=qq5 128
abbrev q151ab0a:=qq9 129
abbrev q151ab0c:=qq9 131
abbrev q151ab0d:=qq10 132
abbrev q151ab0e(a b c d e f g h:PV)(i:List (List PV))(j:PV):Q:=⟨133,[a,b,c,d,e,f,g,h,.rows i,j]⟩
abbrev q154a:=qq5 134
abbrev q10:=qq4 135
abbrev q11:=qq8 136
abbrev q11b0a:=qq9 137
abbrev q11b2a:=qq9 138
abbrev q11b4a:=qq9 139
abbrev q25:=qq2 140
abbrev q25b0a:=qq3 141
abbrev q46:=qq10 142
abbrev q46b0a:=qq11 143
abbrev q47:=qq12 144
abbrev q47b0a:=qq13 145
abbrev q48:=qq16 146
abbrev q48b0a:=qq17 147
abbrev q49:=qq2 148
abbrev q49b0a:=qq3 149
abbrev q88:=qq2 150
abbrev q88b0a:=qq3 151
abbrev q89:=qq8 152
abbrev q90:=qq22 153
abbrev q90b0a:=qq23 154
abbrev q90b2a:=qq23 155
abbrev q122:=qq10 156
abbrev q122b0a:=qq11 157
abbrev q104w:=qq4 158
abbrev q65w:=qq1 159
abbrev q31aw:=qq5 160
abbrev q32aw:=qq5 161
abbrev q33aw:=qq5 162
abbrev q35aw:=qq5 163
abbrev q70aw:=qq5 164
abbrev q69aw:=qq5 165
abbrev q72aw:=qq5 166
abbrev q73aw:=qq5 167
abbrev q102aw:=qq5 168
abbrev q135aw:=qq6 169
abbrev q136aw:=qq5 170
abbrev q151aw:=qq5 171
abbrev q154aw:=qq5 172
abbrev q7w:=qq1 173
set_option maxRecDepth 100000
variable(O:Q→Option Rs)
theorem h124:hh2 q124 g124:=by intro _ _ _;kernel_rfl
theorem h124b0a:hh4 q124b0a g124b0a:=by intro _ _ _ _ _;kernel_rfl
theorem h124b0b:hh4 q124b0b g124b0b:=by intro _ _ _ _ _;kernel_rfl
theorem h124b0c:hh4 q124b0c g124b0c:=by intro _ _ _ _ _;kernel_rfl
theorem h125:hh1 q125 g125:=by intro _ _;kernel_rfl
theorem h127:hh1 q127 g127:=by intro _ _;kernel_rfl
theorem h130:hh1 q130 g130:=by intro _ _;kernel_rfl
theorem h131:hh1 q131 g131:=by intro _ _;kernel_rfl
theorem h132:hh1 q132 g132:=by intro _ _;kernel_rfl
theorem h133:hh1 q133 g133:=by intro _ _;kernel_rfl
theorem h134:hh1 q134 g134:=by intro _ _;kernel_rfl
theorem h147:hh2 q147 g147:=by intro _ _ _;kernel_rfl
theorem h147b0a:hh3 q147b0a g147b0a:=by intro _ _ _ _;kernel_rfl
theorem h148:hh1 q148 g148:=by intro _ _;kernel_rfl
theorem h150:hh2 q150 g150:=by intro _ _ _;kernel_rfl
theorem h150b0a:hh3 q150b0a g150b0a:=by intro _ _ _ _;kernel_rfl
theorem h126:hh2 q126 g126:=by intro _ _ _;kernel_rfl
theorem h126b0a:hh2 q126b0a g126b0a:=by intro _ _ _;kernel_rfl
theorem h126b0b(a b c):body PG EE TT O (q126b0b a b c)=g126b0b (T:=Sm) a b (.rows c) O:=by kernel_rfl
theorem h128:hh3 q128 g128:=by intro _ _ _ _;kernel_rfl
theorem h128b0a:hh3 q128b0a g128b0a:=by intro _ _ _ _;kernel_rfl
theorem h98:hh1 q98 g98:=by intro _ _;kernel_rfl
theorem h98b0a:hh2 q98b0a g98b0a:=by intro _ _ _;kernel_rfl
theorem h99:hh2 q99 g99:=by intro _ _ _;kernel_rfl
theorem h99b0a:hh2 q99b0a g99b0a:=by intro _ _ _;kernel_rfl
theorem h99b2a:hh2 q99b2a g99b2a:=by intro _ _ _;kernel_rfl
theorem h129:hh1 q129 g129:=by intro _ _;kernel_rfl
theorem h129b0a:hh2 q129b0a g129b0a:=by intro _ _ _;kernel_rfl
theorem h129b0b:hh2 q129b0b g129b0b:=by intro _ _ _;kernel_rfl
theorem h129b2a:hh3 q129b2a g129b2a:=by intro _ _ _ _;kernel_rfl
theorem h129b2b:hh3 q129b2b g129b2b:=by intro _ _ _ _;kernel_rfl
theorem h149g0:hh1 q149g0 g149g0:=by intro _ _;kernel_rfl
theorem h149g1:hh1 q149g1 g149g1:=by intro _ _;kernel_rfl
theorem h152:hh2 q152 g152:=by intro _ _ _;kernel_rfl
theorem h153:hh1 q153 g153:=by intro _ _;kernel_rfl
theorem h155:hh1 q155 g155:=by intro _ _;kernel_rfl
theorem h156:hh1 q156 g156:=by intro _ _;kernel_rfl
theorem h65:hh1 q65 g65:=by intro _ _;kernel_rfl
theorem h65b0a:hh2 q65b0a g65b0a:=by intro _ _ _;kernel_rfl
theorem h65b0b(a b c):body PG EE TT O (q65b0b a b c)=g65b0b (T:=Sm) a b (.rows c) O:=by kernel_rfl
theorem h100:hh2 q100 g100:=by intro _ _ _;kernel_rfl
theorem h100b0a:hh4 q100b0a g100b0a:=by intro _ _ _ _ _;kernel_rfl
theorem h104:hh4 q104 g104:=by intro _ _ _ _ _;kernel_rfl
theorem h104b0a:hh6 q104b0a g104b0a:=by delta hh6;intros;kernel_rfl
theorem h103:hh1 q103 g103:=by intro _ _;kernel_rfl
theorem h103b0a:hh2 q103b0a g103b0a:=by intro _ _ _;kernel_rfl
theorem h103b2a:hh3 q103b2a g103b2a:=by intro _ _ _ _;kernel_rfl
theorem h137:hh1 q137 g137:=by intro _ _;kernel_rfl
theorem h137b0a(a b c):body PG EE TT O (q137b0a a b c)=g137b0a (T:=Sm) a (.rows b) c O:=by kernel_rfl
theorem h137b2a(a b c d):body PG EE TT O (q137b2a a b c d)=g137b2a (T:=Sm) a (.rows b) c d O:=by kernel_rfl
theorem h138:hh1 q138 g138:=by intro _ _;kernel_rfl
theorem h28:hh1 q28 g28:=by intro _ _;kernel_rfl
theorem h7:hh1 q7 g7:=by intro _ _;kernel_rfl
theorem h7b0a:hh5 q7b0a g7b0a:=by delta hh5;intros;kernel_rfl
theorem h7b0b(a b c d e f):body PG EE TT O (q7b0b a b c d e f)=g7b0b (T:=Sm) a b c d e (.rows f) O:=by kernel_rfl
theorem h7b0c(a b c d e f):body PG EE TT O (q7b0c a b c d e f)=g7b0c (T:=Sm) a b c d e (.rows f) O:=by kernel_rfl
theorem h7b0d(a b c d e f):body PG EE TT O (q7b0d a b c d e f)=g7b0d (T:=Sm) a b c d e (.rows f) O:=by kernel_rfl
theorem h7b0e(a b c d e f):body PG EE TT O (q7b0e a b c d e f)=g7b0e (T:=Sm) a b c d e (.rows f) O:=by kernel_rfl
theorem h7b0f(a b c d e f g):body PG EE TT O (q7b0f a b c d e f g)=g7b0f (T:=Sm) a b c d e (.rows f) (.rows g) O:=by kernel_rfl
theorem h7b0g(a b c d e f g):body PG EE TT O (q7b0g a b c d e f g)=g7b0g (T:=Sm) a b c d e (.rows f) (.rows g) O:=by kernel_rfl
theorem h7b0h(a b c d e f g):body PG EE TT O (q7b0h a b c d e f g)=g7b0h (T:=Sm) a b c d e (.rows f) (.rows g) O:=by kernel_rfl
theorem h7b0i(a b c d e f g):body PG EE TT O (q7b0i a b c d e f g)=g7b0i (T:=Sm) a b c d e (.rows f) (.rows g) O:=by kernel_rfl
theorem h7b0j(a b c d e f g):body PG EE TT O (q7b0j a b c d e f g)=g7b0j (T:=Sm) a b c d e (.rows f) (.rows g) O:=by kernel_rfl
theorem h7b0k(a b c d e f g):body PG EE TT O (q7b0k a b c d e f g)=g7b0k (T:=Sm) a b c d e (.rows f) (.rows g) O:=by kernel_rfl
theorem h7b0l(a b c d e f g h):body PG EE TT O (q7b0l a b c d e f g h)=g7b0l (T:=Sm) a b c d e (.rows f) (.rows g) (.rows h) O:=by kernel_rfl
theorem h7b0m(a b c d e f g h):body PG EE TT O (q7b0m a b c d e f g h)=g7b0m (T:=Sm) a b c d e (.rows f) (.rows g) (.rows h) O:=by kernel_rfl
theorem h7b0n(a b c d e f g h):body PG EE TT O (q7b0n a b c d e f g h)=g7b0n (T:=Sm) a b c d e (.rows f) (.rows g) (.rows h) O:=by kernel_rfl
theorem h7b0o(a b c d e f g h):body PG EE TT O (q7b0o a b c d e f g h)=g7b0o (T:=Sm) a b c d e (.rows f) (.rows g) (.rows h) O:=by kernel_rfl
theorem h7b0p(a b c d e f g h i):body PG EE TT O (q7b0p a b c d e f g h i)=g7b0p (T:=Sm) a b c d e (.rows f) (.rows g) (.rows h) (.rows i) O:=by kernel_rfl
theorem h66a:hh7 q66a g66a:=by delta hh7;intros;kernel_rfl
theorem h29a:hh5 q29a g29a:=by delta hh5;intros;kernel_rfl
theorem h30a:hh6 q30a g30a:=by delta hh6;intros;kernel_rfl
theorem h31a:hh5 q31a g31a:=by delta hh5;intros;kernel_rfl
theorem h31ab0a:hh7 q31ab0a g31ab0a:=by delta hh7;intros;kernel_rfl
theorem h31ab0b(a b c d e f g h):body PG EE TT O (q31ab0b a b c d e f g h)=g31ab0b (T:=Sm) a b c d e f (.rows g) h O:=by kernel_rfl
theorem h31ab2a:hh7 q31ab2a g31ab2a:=by delta hh7;intros;kernel_rfl
theorem h31ab2e(a b c d e f g h):body PG EE TT O (q31ab2e a b c d e f g h)=g31ab2e (T:=Sm) a b c d e f (.rows g) h O:=by kernel_rfl
theorem h31ab2i(a b c d e f g h):body PG EE TT O (q31ab2i a b c d e f g h)=g31ab2i (T:=Sm) a b c d e f (.rows g) h O:=by kernel_rfl
theorem h31ab2j(a b c d e f g h):body PG EE TT O (q31ab2j a b c d e f g h)=g31ab2j (T:=Sm) a b c d e f (.rows g) h O:=by kernel_rfl
theorem h31ab2q(a b c d e f g h i):body PG EE TT O (q31ab2q a b c d e f g h i)=g31ab2q (T:=Sm) a b c d e f (.rows g) (.rows h) i O:=by kernel_rfl
theorem h31ab2r(a b c d e f g h i):body PG EE TT O (q31ab2r a b c d e f g h i)=g31ab2r (T:=Sm) a b c d e f (.rows g) (.rows h) i O:=by kernel_rfl
theorem h31ab4a:hh9 q31ab4a g31ab4a:=by delta hh9;intros;kernel_rfl
theorem h31ab4c(a b c d e f g h i j):body PG EE TT O (q31ab4c a b c d e f g h i j)=g31ab4c (T:=Sm) a b c d e f g h (.rows i) j O:=by kernel_rfl
theorem h31ab4e(a b c d e f g h i j):body PG EE TT O (q31ab4e a b c d e f g h i j)=g31ab4e (T:=Sm) a b c d e f g h (.rows i) j O:=by kernel_rfl
theorem h31ab4g(a b c d e f g h i j k):body PG EE TT O (q31ab4g a b c d e f g h i j k)=g31ab4g (T:=Sm) a b c d e f g h (.rows i) (.rows j) k O:=by kernel_rfl
theorem h31ab4i(a b c d e f g h i j):body PG EE TT O (q31ab4i a b c d e f g h i j)=g31ab4i (T:=Sm) a b c d e f (.rows g) h i j O:=by kernel_rfl
theorem h31ab4k(a b c d e f g h i j k):body PG EE TT O (q31ab4k a b c d e f g h i j k)=g31ab4k (T:=Sm) a b c d e f (.rows g) h i (.rows j) k O:=by kernel_rfl
theorem h31ab4m(a b c d e f g h i j k):body PG EE TT O (q31ab4m a b c d e f g h i j k)=g31ab4m (T:=Sm) a b c d e f (.rows g) h i (.rows j) k O:=by kernel_rfl
theorem h31ab4o(a b c d e f g h i j k l):body PG EE TT O (q31ab4o a b c d e f g h i j k l)=g31ab4o (T:=Sm) a b c d e f (.rows g) h i (.rows j) (.rows k) l O:=by kernel_rfl
theorem h34a:hh7 q34a g34a:=by delta hh7;intros;kernel_rfl
theorem h32a:hh5 q32a g32a:=by delta hh5;intros;kernel_rfl
theorem h32ab0a:hh9 q32ab0a g32ab0a:=by delta hh9;intros;kernel_rfl
theorem h32ab0c(a b c d e f g h i j):body PG EE TT O (q32ab0c a b c d e f g h i j)=g32ab0c (T:=Sm) a b c d e f g h (.rows i) j O:=by kernel_rfl
theorem h32ab0d(a b c d e f g h i j):body PG EE TT O (q32ab0d a b c d e f g h i j)=g32ab0d (T:=Sm) a b c d e f g h (.rows i) j O:=by kernel_rfl
theorem h32ab0g(a b c d e f g h i j k):body PG EE TT O (q32ab0g a b c d e f g h i j k)=g32ab0g (T:=Sm) a b c d e f g h (.rows i) (.rows j) k O:=by kernel_rfl
theorem h33a:hh5 q33a g33a:=by delta hh5;intros;kernel_rfl
theorem h33ab0a:hh11 q33ab0a g33ab0a:=by delta hh11;intros;kernel_rfl
theorem h33ab0b(a b c d e f g h i j k l):body PG EE TT O (q33ab0b a b c d e f g h i j k l)=g33ab0b (T:=Sm) a b c d e f g h i j (.rows k) l O:=by kernel_rfl
theorem h33ab0c(a b c d e f g h i j k l):body PG EE TT O (q33ab0c a b c d e f g h i j k l)=g33ab0c (T:=Sm) a b c d e f g h i j (.rows k) l O:=by kernel_rfl
theorem h33ab2a:hh11 q33ab2a g33ab2a:=by delta hh11;intros;kernel_rfl
theorem h33ab2c(a b c d e f g h i j k l):body PG EE TT O (q33ab2c a b c d e f g h i j k l)=g33ab2c (T:=Sm) a b c d e f g h i j (.rows k) l O:=by kernel_rfl
theorem h33ab2e(a b c d e f g h i j k l):body PG EE TT O (q33ab2e a b c d e f g h i j k l)=g33ab2e (T:=Sm) a b c d e f g h i j (.rows k) l O:=by kernel_rfl
theorem h33ab2g(a b c d e f g h i j k l m):body PG EE TT O (q33ab2g a b c d e f g h i j k l m)=g33ab2g (T:=Sm) a b c d e f g h i j (.rows k) (.rows l) m O:=by kernel_rfl
theorem h35a:hh5 q35a g35a:=by delta hh5;intros;kernel_rfl
theorem h67a:hh6 q67a g67a:=by delta hh6;intros;kernel_rfl
theorem h70a:hh5 q70a g70a:=by delta hh5;intros;kernel_rfl
theorem h70ab0a(a b c d e f):body PG EE TT O (q70ab0a a b c d e f)=g70ab0a (T:=Sm) (.rows a) b c d e f O:=by kernel_rfl
theorem h70ab0b(a b c d e f):body PG EE TT O (q70ab0b a b c d e f)=g70ab0b (T:=Sm) (.rows a) b c d e f O:=by kernel_rfl
theorem h68a:hh6 q68a g68a:=by delta hh6;intros;kernel_rfl
theorem h69a:hh5 q69a g69a:=by delta hh5;intros;kernel_rfl
theorem h71a:hh5 q71a g71a:=by delta hh5;intros;kernel_rfl
theorem h72a:hh5 q72a g72a:=by delta hh5;intros;kernel_rfl
theorem h72ab0a:hh8 q72ab0a g72ab0a:=by delta hh8;intros;kernel_rfl
theorem h72ab0b(a b c d e f g h i):body PG EE TT O (q72ab0b a b c d e f g h i)=g72ab0b (T:=Sm) a b c d e f g h (.rows i) O:=by kernel_rfl
theorem h73a:hh5 q73a g73a:=by delta hh5;intros;kernel_rfl
theorem h73ab0a(a b c d e f):body PG EE TT O (q73ab0a a b c d e f)=g73ab0a (T:=Sm) (.rows a) b c d e f O:=by kernel_rfl
theorem h73ab0b(a b c d e f g h):body PG EE TT O (q73ab0b a b c d e f g h)=g73ab0b (T:=Sm) (.rows a) (.rows b) (.rows c) d e f g h O:=by kernel_rfl
theorem h101a:hh5 q101a g101a:=by delta hh5;intros;kernel_rfl
theorem h102a:hh5 q102a g102a:=by delta hh5;intros;kernel_rfl
theorem h102ab0a(a b c d e f g h i j k l m):body PG EE TT O (q102ab0a a b c d e f g h i j k l m)=g102ab0a (T:=Sm) a b c d e f g h i j k (.rows l) m O:=by kernel_rfl
theorem h102ab0b(a b c d e f g h i j k l m):body PG EE TT O (q102ab0b a b c d e f g h i j k l m)=g102ab0b (T:=Sm) a b c d e f g h i j k (.rows l) m O:=by kernel_rfl
theorem h102ab2a:hh20 q102ab2a g102ab2a:=by delta hh20;intros;kernel_rfl
theorem h102ab2b(a b c d e f g h i j k l m n o p q):body PG EE TT O (q102ab2b a b c d e f g h i j k l m n o p q)=g102ab2b (T:=Sm) a b c d e f g h i j k (.rows l) m n o p q O:=by kernel_rfl
theorem h135a:hh6 q135a g135a:=by delta hh6;intros;kernel_rfl
theorem h136a:hh5 q136a g136a:=by delta hh5;intros;kernel_rfl
theorem h136ab1a(a b c d e f g h i j k l m):body PG EE TT O (q136ab1a a b c d e f g h i j k l m)=g136ab1a (T:=Sm) a b c d e f g h i j k (.rows l) m O:=by kernel_rfl
theorem h136ab1b(a b c d e f g h i j k l m n):body PG EE TT O (q136ab1b a b c d e f g h i j k l m n)=g136ab1b (T:=Sm) a b c d e f g h i j k (.rows l) (.rows m) n O:=by kernel_rfl
theorem h136ab1c(a b c d e f g h i j k l m n):body PG EE TT O (q136ab1c a b c d e f g h i j k l m n)=g136ab1c (T:=Sm) a b c d e f g h i j k (.rows l) (.rows m) n O:=by kernel_rfl
theorem h151a:hh5 q151a g151a:=by delta hh5;intros;kernel_rfl
theorem h151ab0a:hh9 q151ab0a g151ab0a:=by delta hh9;intros;kernel_rfl
theorem h151ab0c:hh9 q151ab0c g151ab0c:=by delta hh9;intros;kernel_rfl
theorem h151ab0d:hh10 q151ab0d g151ab0d:=by delta hh10;intros;kernel_rfl
theorem h151ab0e(a b c d e f g h i j):body PG EE TT O (q151ab0e a b c d e f g h i j)=g151ab0e (T:=Sm) a b c d e f g h (.rows i) j O:=by kernel_rfl
theorem h154a:hh5 q154a g154a:=by delta hh5;intros;kernel_rfl
theorem h10:hh4 q10 g10:=by intro _ _ _ _ _;kernel_rfl
theorem h11:hh8 q11 g11:=by delta hh8;intros;kernel_rfl
theorem h11b0a:hh9 q11b0a g11b0a:=by delta hh9;intros;kernel_rfl
theorem h11b2a:hh9 q11b2a g11b2a:=by delta hh9;intros;kernel_rfl
theorem h11b4a:hh9 q11b4a g11b4a:=by delta hh9;intros;kernel_rfl
theorem h25:hh2 q25 g25:=by intro _ _ _;kernel_rfl
theorem h25b0a:hh3 q25b0a g25b0a:=by intro _ _ _ _;kernel_rfl
theorem h46:hh10 q46 g46:=by delta hh10;intros;kernel_rfl
theorem h46b0a:hh11 q46b0a g46b0a:=by delta hh11;intros;kernel_rfl
theorem h47:hh12 q47 g47:=by delta hh12;intros;kernel_rfl
theorem h47b0a:hh13 q47b0a g47b0a:=by delta hh13;intros;kernel_rfl
theorem h48:hh16 q48 g48:=by delta hh16;intros;kernel_rfl
theorem h48b0a:hh17 q48b0a g48b0a:=by delta hh17;intros;kernel_rfl
theorem h49:hh2 q49 g49:=by intro _ _ _;kernel_rfl
theorem h49b0a:hh3 q49b0a g49b0a:=by intro _ _ _ _;kernel_rfl
theorem h88:hh2 q88 g88:=by intro _ _ _;kernel_rfl
theorem h88b0a:hh3 q88b0a g88b0a:=by intro _ _ _ _;kernel_rfl
theorem h89:hh8 q89 g89:=by delta hh8;intros;kernel_rfl
theorem h90:hh22 q90 g90:=by delta hh22;intros;kernel_rfl
theorem h90b0a:hh23 q90b0a g90b0a:=by delta hh23;intros;kernel_rfl
theorem h90b2a:hh23 q90b2a g90b2a:=by delta hh23;intros;kernel_rfl
theorem h122:hh10 q122 g122:=by delta hh10;intros;kernel_rfl
theorem h122b0a:hh11 q122b0a g122b0a:=by delta hh11;intros;kernel_rfl
theorem h104w(a b c d):body PG EE TT O (q104w a b c d)=weakK (O ⟨42,[a,b,c,d]⟩):=by kernel_rfl
theorem h65w(a):body PG EE TT O (q65w a)=weakK (O ⟨37,[a]⟩):=by kernel_rfl
theorem h31aw(a b c d e):body PG EE TT O (q31aw a b c d e)=weakD (O ⟨72,[a,b,c,d,e]⟩):=by kernel_rfl
theorem h32aw(a b c d e):body PG EE TT O (q32aw a b c d e)=weakD (O ⟨90,[a,b,c,d,e]⟩):=by kernel_rfl
theorem h33aw(a b c d e):body PG EE TT O (q33aw a b c d e)=weakD (O ⟨95,[a,b,c,d,e]⟩):=by kernel_rfl
theorem h35aw(a b c d e):body PG EE TT O (q35aw a b c d e)=weakD (O ⟨103,[a,b,c,d,e]⟩):=by kernel_rfl
theorem h70aw(a b c d e):body PG EE TT O (q70aw a b c d e)=weakD (O ⟨105,[a,b,c,d,e]⟩):=by kernel_rfl
theorem h69aw(a b c d e):body PG EE TT O (q69aw a b c d e)=weakD (O ⟨109,[a,b,c,d,e]⟩):=by kernel_rfl
theorem h72aw(a b c d e):body PG EE TT O (q72aw a b c d e)=weakD (O ⟨111,[a,b,c,d,e]⟩):=by kernel_rfl
theorem h73aw(a b c d e):body PG EE TT O (q73aw a b c d e)=weakD (O ⟨114,[a,b,c,d,e]⟩):=by kernel_rfl
theorem h102aw(a b c d e):body PG EE TT O (q102aw a b c d e)=weakD (O ⟨118,[a,b,c,d,e]⟩):=by kernel_rfl
theorem h135aw(a b c d e f):body PG EE TT O (q135aw a b c d e f)=weakD (O ⟨123,[a,b,c,d,e,f]⟩):=by kernel_rfl
theorem h136aw(a b c d e):body PG EE TT O (q136aw a b c d e)=weakD (O ⟨124,[a,b,c,d,e]⟩):=by kernel_rfl
theorem h151aw(a b c d e):body PG EE TT O (q151aw a b c d e)=weakD (O ⟨128,[a,b,c,d,e]⟩):=by kernel_rfl
theorem h154aw(a b c d e):body PG EE TT O (q154aw a b c d e)=weakD (O ⟨134,[a,b,c,d,e]⟩):=by kernel_rfl
theorem h7w(a):body PG EE TT O (q7w a)=weakK (O ⟨52,[a]⟩):=by kernel_rfl
end Go.Proofs.YtjpjcjnacnlhdaaGreat.X
