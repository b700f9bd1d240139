/- Joined texts. -/
import Derived.Shelf.Strings.Trim
import Derived.Shelf.Small.Utf8
import Derived.Shelf.Small.Strs
import Derived.Shelf.Strings.Search1
import Derived.Shelf.Strings.Prefix
import Derived.Shelf.Strings.Runes
import Derived.Shelf.Strings.AsciiSet
import Derived.Shelf.Unicode.DecodeSlow
import Derived.Test.YtfphhabaeggenaaDoorProg
import Derived.Lib.IndexAny
import Derived.Lib.Hide
import Derived.WalkKit
import Derived.WalkSpells
import Derived.WalkLawsBesides
import Derived.Deep.LoopGhost
import Derived.Deep.QuietTactic
import Derived.BigQuiet
set_option linter.all false
set_option linter.all false
namespace Go.Proofs
open Go.Shelf
def Tryd.lays161_ren:Go.Shelf.Ren:=⟨fun|161=>73|231=>77|227=>78|233=>79|235=>80|228=>85|197=>86|151=>87|260=>89|152=>90|137=>75|119=>91|224=>92|225=>93|217=>82|266=>88|n=>n,fun|9=>9|4=>4|3=>3|5=>5|117=>133|116=>132|0=>0|124=>136|105=>140|21=>21|119=>144|46=>24|139=>147|138=>146|n=>n,fun|3=>1|4=>2|n=>n⟩
theorem Tryd.lays161:Go.Proofs.Lays.n161 Tryd.prog Tryd.lays161_ren:={
 mixed:=by kernel_rfl
 f119:=Tryd.func91.trans (congrArg some (by kernel_rfl))
 f137:=Tryd.func75.trans (congrArg some (by kernel_rfl))
 f151:=Tryd.func87.trans (congrArg some (by kernel_rfl))
 f152:=Tryd.func90.trans (congrArg some (by kernel_rfl))
 f161:=Tryd.func73.trans (congrArg some (by kernel_rfl))
 f197:=Tryd.func86.trans (congrArg some (by kernel_rfl))
 f217:=Tryd.func82.trans (congrArg some (by kernel_rfl))
 f224:=Tryd.func92.trans (congrArg some (by kernel_rfl))
 f225:=Tryd.func93.trans (congrArg some (by kernel_rfl))
 f227:=Tryd.func78.trans (congrArg some (by kernel_rfl))
 f228:=Tryd.func85.trans (congrArg some (by kernel_rfl))
 f231:=Tryd.func77.trans (congrArg some (by kernel_rfl))
 f233:=Tryd.func79.trans (congrArg some (by kernel_rfl))
 f235:=Tryd.func80.trans (congrArg some (by kernel_rfl))
 f260:=Tryd.func89.trans (congrArg some (by kernel_rfl))
 f266:=Tryd.func88.trans (congrArg some (by kernel_rfl))
 t0:=Tryd.underlying0
 a0:=Tryd.isAgg0
 z0:=Tryd.sizeOf0
 v0:=Tryd.zeroValue0
 t3:=Tryd.underlying3
 a3:=Tryd.isAgg3
 z3:=Tryd.sizeOf3
 v3:=Tryd.zeroValue3
 t4:=Tryd.underlying4
 a4:=Tryd.isAgg4
 z4:=Tryd.sizeOf4
 v4:=Tryd.zeroValue4
 t5:=Tryd.underlying5
 a5:=Tryd.isAgg5
 z5:=Tryd.sizeOf5
 v5:=Tryd.zeroValue5
 t9:=Tryd.underlying9
 a9:=Tryd.isAgg9
 z9:=Tryd.sizeOf9
 v9:=Tryd.zeroValue9
 t21:=Tryd.underlying21
 a21:=Tryd.isAgg21
 z21:=Tryd.sizeOf21
 v21:=Tryd.zeroValue21
 t46:=Tryd.underlying24
 a46:=Tryd.isAgg24
 z46:=Tryd.sizeOf24
 v46:=Tryd.zeroValue24
 t105:=Tryd.underlying140
 a105:=Tryd.isAgg140
 z105:=Tryd.sizeOf140
 v105:=Tryd.zeroValue140
 t116:=Tryd.underlying132
 a116:=Tryd.isAgg132
 z116:=Tryd.sizeOf132
 t117:=Tryd.underlying133
 a117:=Tryd.isAgg133
 z117:=Tryd.sizeOf133
 v117:=Tryd.zeroValue133
 t119:=Tryd.underlying144
 a119:=Tryd.isAgg144
 z119:=Tryd.sizeOf144
 t124:=Tryd.underlying136
 a124:=Tryd.isAgg136
 z124:=Tryd.sizeOf136
 v124:=Tryd.zeroValue136
 t138:=Tryd.underlying146
 a138:=Tryd.isAgg146
 z138:=Tryd.sizeOf146
 v138:=Tryd.zeroValue146
 t139:=Tryd.underlying147
 a139:=Tryd.isAgg147
 z139:=Tryd.sizeOf147
 v139:=Tryd.zeroValue147
 g3:=by kernel_rfl
 g4:=by kernel_rfl }
open Go.RowKit in
theorem Tryd.strings_TrimLeft_one(s:ByteArray)(c:UInt8)(hc:c.toNat<128)(w:World) :
  Calls Tryd.prog 73 #[.string s,.string ⟨#[c]⟩] w fun e w'=>e=.returned (.string ⟨(Lib.trimLeftB s.data.toList c).toArray⟩)∧w'=w:=Any.strings_TrimLeft_one Tryd.lays161 s c hc w
def Tryd.lays137_ren:Go.Shelf.Ren:=⟨fun|137=>75|217=>82|266=>88|n=>n,fun|9=>9|5=>5|3=>3|n=>n,fun|n=>n⟩
theorem Tryd.lays137:Go.Proofs.Lays.n137 Tryd.prog Tryd.lays137_ren:={
 mixed:=by kernel_rfl
 f137:=Tryd.func75.trans (congrArg some (by kernel_rfl))
 f217:=Tryd.func82.trans (congrArg some (by kernel_rfl))
 f266:=Tryd.func88.trans (congrArg some (by kernel_rfl))
 t3:=Tryd.underlying3
 a3:=Tryd.isAgg3
 z3:=Tryd.sizeOf3
 v3:=Tryd.zeroValue3
 t5:=Tryd.underlying5
 a5:=Tryd.isAgg5
 z5:=Tryd.sizeOf5
 v5:=Tryd.zeroValue5
 t9:=Tryd.underlying9
 a9:=Tryd.isAgg9
 z9:=Tryd.sizeOf9
 v9:=Tryd.zeroValue9 }
open Go.RowKit in
theorem Tryd.strings_IndexByte(s:ByteArray)(c:Int)(w:World) :
  Calls Tryd.prog 75 #[.string s,.int .u8 c] w fun e w'=>e=.returned (.int .i64 (Lib.indexByte s.data.toList c.toNat.toUInt8))∧w'=w:=Any.strings_IndexByte Tryd.lays137 s c w
def Tryd.lays206_ren:Go.Shelf.Ren:=⟨fun|206=>70|n=>n,fun|9=>9|4=>4|3=>3|n=>n,fun|n=>n⟩
def Tryd.lays99_ren:Go.Shelf.Ren:=⟨fun|99=>55|206=>70|n=>n,fun|9=>9|4=>4|3=>3|n=>n,fun|n=>n⟩
theorem Tryd.lays99:Go.Proofs.Lays.n99 Tryd.prog Tryd.lays99_ren:={
 mixed:=by kernel_rfl
 f99:=Tryd.func55.trans (congrArg some (by kernel_rfl))
 f206:=Tryd.func70.trans (congrArg some (by kernel_rfl))
 t3:=Tryd.underlying3
 a3:=Tryd.isAgg3
 z3:=Tryd.sizeOf3
 v3:=Tryd.zeroValue3
 t4:=Tryd.underlying4
 a4:=Tryd.isAgg4
 z4:=Tryd.sizeOf4
 v4:=Tryd.zeroValue4
 t9:=Tryd.underlying9
 a9:=Tryd.isAgg9
 z9:=Tryd.sizeOf9
 v9:=Tryd.zeroValue9 }
open Go.RowKit Go.Lib in
theorem Tryd.strings_HasPrefix(s p:ByteArray)(w:World) :
  Calls Tryd.prog 55 #[.string s,.string p] w fun e w'=>e=.returned (.bool (Lib.hasPrefix s.data.toList p.data.toList))∧w'=w:=Any.strings_HasPrefix Tryd.lays99 s p w
end Go.Proofs
namespace Go.Proofs.YtfphhabaeggenaaDoor.Lx
set_option maxRecDepth 20000
open Go.RowKit
def lowB(c:UInt8):Bool:=decide (97≤c.toNat∧c.toNat≤122∨c.toNat=95)
def upB(c:UInt8):Bool:=decide (65≤c.toNat∧c.toNat≤90)
def digitB(c:UInt8):Bool:=decide (48≤c.toNat∧c.toNat≤57)
def blankB(c:UInt8):Bool:=decide (c.toNat=32∨c.toNat=9∨c.toNat=10∨c.toNat=13)
def insideB(c:UInt8):Bool:=lowB c||upB c||digitB c||decide (c.toNat=39)
def lineB(c:UInt8):Bool:=decide (c.toNat≠10)
def symList:List UInt8:=[33,36,37,38,42,43,46,47,60,61,62,63,64,94,124,126,58,45]
def symB(c:UInt8):Bool:=symList.contains c
theorem ret_bool{a b:Bool}(h:a=b):Ending.returned (.bool a)=.returned (.bool b):=by rw[h]
set_option maxHeartbeats 400000 in
theorem up_any(c:UInt8)(w:World) :
  Calls Tryd.prog 60 #[.int .u8 (c.toNat:Int)] w fun e w'=>e=.returned (.bool (upB c))∧w=w':=by
 go_enter Tryd.func60,Tryd.ntmps60
 go_wp2
 all_goals go_ret
 all_goals exact⟨ret_bool (by rw[Bool.eq_iff_iff];simp[upB];try omega),rfl⟩
set_option maxHeartbeats 400000 in
theorem low_any(c:UInt8)(w:World) :
  Calls Tryd.prog 59 #[.int .u8 (c.toNat:Int)] w fun e w'=>e=.returned (.bool (lowB c))∧w=w':=by
 go_enter Tryd.func59,Tryd.ntmps59
 go_wp2
 all_goals go_ret
 all_goals exact⟨ret_bool (by rw[Bool.eq_iff_iff];simp[lowB];try omega),rfl⟩
set_option maxHeartbeats 400000 in
theorem digit_any(c:UInt8)(w:World) :
  Calls Tryd.prog 62 #[.int .u8 (c.toNat:Int)] w fun e w'=>e=.returned (.bool (digitB c))∧w=w':=by
 go_enter Tryd.func62,Tryd.ntmps62
 go_wp2
 all_goals go_ret
 all_goals exact⟨ret_bool (by rw[Bool.eq_iff_iff];simp[digitB];try omega),rfl⟩
set_option maxHeartbeats 400000 in
theorem blank_any(c:UInt8)(w:World) :
  Calls Tryd.prog 57 #[.int .u8 (c.toNat:Int)] w fun e w'=>e=.returned (.bool (blankB c))∧w=w':=by
 go_enter Tryd.func57,Tryd.ntmps57
 go_wp2
 all_goals go_ret
 all_goals exact⟨ret_bool (by rw[Bool.eq_iff_iff];simp[blankB];try omega),rfl⟩
set_option maxHeartbeats 400000 in
theorem line_any(v:Value)(c:UInt8)(w:World) :
  Calls Tryd.prog 58 #[v,.int .u8 (c.toNat:Int)] w fun e w'=>e=.returned (.bool (lineB c))∧w=w':=by
 go_enter Tryd.func58,Tryd.ntmps58
 go_wp2
 all_goals go_ret
 all_goals exact⟨ret_bool (by rw[Bool.eq_iff_iff];simp[lineB];try omega),rfl⟩
set_option maxHeartbeats 400000 in
theorem inside_any(c:UInt8)(w:World) :
  Calls Tryd.prog 71 #[.int .u8 (c.toNat:Int)] w fun e w'=>e=.returned (.bool (insideB c))∧w=w':=by
 cases hl:lowB c
 ·cases hu:upB c
  ·cases hd:digitB c
   all_goals
    go_enter Tryd.func71,Tryd.ntmps71
    go_wp2_with (first|(go_at_call 59;refine(low_any _ _).mono ?_;rintro e w' ⟨rfl,rfl⟩)|(go_at_call 60;refine(up_any _ _).mono ?_;rintro e w' ⟨rfl,rfl⟩)|(go_at_call 62;refine(digit_any _ _).mono ?_;rintro e w' ⟨rfl,rfl⟩))
    all_goals go_ret
    all_goals exact⟨ret_bool (by rw[Bool.eq_iff_iff];simp[insideB,hl,hu,hd];try omega),rfl⟩
  ·go_enter Tryd.func71,Tryd.ntmps71
   go_wp2_with (first|(go_at_call 59;refine(low_any _ _).mono ?_;rintro e w' ⟨rfl,rfl⟩)|(go_at_call 60;refine(up_any _ _).mono ?_;rintro e w' ⟨rfl,rfl⟩)|(go_at_call 62;refine(digit_any _ _).mono ?_;rintro e w' ⟨rfl,rfl⟩))
   all_goals go_ret
   all_goals exact⟨ret_bool (by simp[insideB,hl,hu]),rfl⟩
 ·go_enter Tryd.func71,Tryd.ntmps71
  go_wp2_with (first|(go_at_call 59;refine(low_any _ _).mono ?_;rintro e w' ⟨rfl,rfl⟩)|(go_at_call 60;refine(up_any _ _).mono ?_;rintro e w' ⟨rfl,rfl⟩)|(go_at_call 62;refine(digit_any _ _).mono ?_;rintro e w' ⟨rfl,rfl⟩))
  all_goals go_ret
  all_goals exact⟨ret_bool (by simp[insideB,hl]),rfl⟩
set_option maxHeartbeats 400000 in
theorem symbol_any(c:UInt8)(w:World) :
  Calls Tryd.prog 65 #[.int .u8 (c.toNat:Int)] w fun e w'=>e=.returned (.bool (symB c))∧w=w':=by
 go_enter Tryd.func65,Tryd.ntmps65
 go_wp2_with (go_at_call 75;refine(Tryd.strings_IndexByte _ _ _).mono ?_;rintro e w' ⟨rfl,rfl⟩)
 go_ret
 exact⟨ret_bool (Lib.contains_iff_indexByte symList c).symm,rfl⟩
def allB(p:UInt8→Bool)(s:ByteArray):Bool:=s.data.toList.all p
theorem take_snoc(s:ByteArray)(k:Nat)(h:k<s.size):s.data.toList.take (k+1)=s.data.toList.take k++[s[k]]:=by
 rw[List.take_succ_eq_append_getElem (by simpa using h)];rfl
theorem take_all(s:ByteArray)(k:Nat)(h:¬k<s.size):s.data.toList.take k=s.data.toList:=
 List.take_of_length_le (by have:s.data.toList.length=s.size:=rfl;omega)
theorem mem_at(s:ByteArray)(k:Nat)(h:k<s.size):s[k]∈s.data.toList:=by
 have:s[k]=s.data.toList[k]'(by simpa using h):=rfl
 rw[this];exact List.getElem_mem _
end Go.Proofs.YtfphhabaeggenaaDoor.Lx
namespace Go.Proofs.YtfphhabaeggenaaDoor.Lx
set_option maxRecDepth 20000
open Go.RowKit
def keyList:List (List UInt8):=[[100,97,116,97],[99,108,97,115,115],[105,110,115,116,97,110,99,101],[102,114,111,109],[119,104,101,114,101],[101,110,100],[100,101,114,105,118,105,110,103],[100,101,102],[108,101,116],[114,101,99],[97,110,100],[105,110],[99,97,115,101],[111,102],[105,102],[116,104,101,110],[101,108,115,101]]
def markList:List (List UInt8):=[[40],[41],[44],[59],[92],[95],[61],[45,62],[124],[58]]
def keyB(s:ByteArray):Bool:=keyList.contains s.toList
def markB(s:ByteArray):Bool:=markList.contains s.toList
set_option maxHeartbeats 1000000 in
theorem mark_any(s:ByteArray)(w:World) :
  Calls Tryd.prog 66 #[.string s] w fun e w'=>e=.returned (.bool (markB s))∧w=w':=by
 go_enter Tryd.func66,Tryd.ntmps66
 go_wp2
 all_goals go_ret
 all_goals exact⟨ret_bool (by simp_all[markB,markList]),rfl⟩
set_option maxHeartbeats 1000000 in
theorem key_any(s:ByteArray)(w:World) :
  Calls Tryd.prog 72 #[.string s] w fun e w'=>e=.returned (.bool (keyB s))∧w=w':=by
 go_enter Tryd.func72,Tryd.ntmps72
 go_wp2
 all_goals go_ret
 all_goals exact⟨ret_bool (by simp_all[keyB,keyList]),rfl⟩
def ByteFn(f:Nat)(p:UInt8→Bool):Prop:=
 (∀(args:Array Value) (w:World),Sem.run Tryd.prog (callFunc f args) w=.ok (.enter f args) w)∧
 ∀(c:UInt8) (w:World),Calls Tryd.prog f #[.int .u8 (c.toNat:Int)] w fun e w'=>e=.returned (.bool (p c))∧w=w'
theorem inside_fn:ByteFn 71 insideB:=⟨fun _ _=>by kernel_rfl,inside_any⟩
theorem symbol_fn:ByteFn 65 symB:=⟨fun _ _=>by kernel_rfl,symbol_any⟩
theorem digit_fn:ByteFn 62 digitB:=⟨fun _ _=>by kernel_rfl,digit_any⟩
theorem blank_fn:ByteFn 57 blankB:=⟨fun _ _=>by kernel_rfl,blank_any⟩
def headB(p:UInt8→Bool)(s:ByteArray):Bool:=match s.data.toList with|[]=>false|c::_=>p c
theorem headB_at(p:UInt8→Bool)(s:ByteArray)(h:0<s.size):headB p s=p s[0]:=by
 obtain⟨⟨l⟩⟩:=s
 cases l with
 |nil=>exact absurd h (by decide)
 |cons c r=>rfl
def textOf(l:List UInt8):ByteArray:=⟨l.toArray⟩
end Go.Proofs.YtfphhabaeggenaaDoor.Lx
namespace Go.Proofs.YtfphhabaeggenaaDoor.Lx
set_option maxRecDepth 20000
open Go.RowKit
end Go.Proofs.YtfphhabaeggenaaDoor.Lx
namespace Go.Proofs.YtfphhabaeggenaaDoor.Lx
set_option maxRecDepth 20000
open Go.RowKit
theorem grown_refl(w:World)(r:Option Nat):w.grownBy w r:=⟨rfl,rfl,rfl,Nat.le_refl _,fun _ _ _=>rfl⟩
theorem grown_trans{a b c:World}{r:Option Nat}(h:a.grownBy b r)(k:b.grownBy c r):a.grownBy c r:=
 ⟨k.os.trans h.os,k.tape.trans h.tape,k.output.trans h.output,Nat.le_trans h.size k.size,fun i hi hr=>(k.block i (Nat.lt_of_lt_of_le hi h.size) hr).trans (h.block i hi hr)⟩
theorem grown_drewN{a b:World}{r:Option Nat}(h:a.grownBy b r)(n:Nat):a.grownBy (b.drewN n) r:=⟨h.os,h.tape,h.output,h.size,h.block⟩
theorem grown_setCell{a b:World}{k:Nat}(h:a.grownBy b (some k))(o:Nat)(u:Value):a.grownBy (b.setCell ⟨k,o,none⟩ u) (some k):=
 grown_trans h ⟨rfl,rfl,rfl,by simp[World.setCell],fun i _ hr=>Below.heap_setCell _ _ _ _ (fun e=>hr (by rw[e]))⟩
def Blk(w:World)(b:Nat)(s:ByteArray)(k:Nat)(v:Value):Prop:=w.heap[b]? = some (.cells #[.string s,.int .i64 (k:Int),v] 113 (0,0))
theorem Blk.c0{w:World}{b k:Nat}{s:ByteArray}{v:Value}(h:Blk w b s k v):w.cell? ⟨b,0,none⟩=some (.string s):=by simp[World.cell?,show w.heap[b]? = _ from h]
theorem Blk.c1{w:World}{b k:Nat}{s:ByteArray}{v:Value}(h:Blk w b s k v):w.cell? ⟨b,1,none⟩=some (.int .i64 (k:Int)):=by simp[World.cell?,show w.heap[b]? = _ from h]
theorem Blk.c2{w:World}{b k:Nat}{s:ByteArray}{v:Value}(h:Blk w b s k v):w.cell? ⟨b,2,none⟩=some v:=by simp[World.cell?,show w.heap[b]? = _ from h]
theorem Blk.f{w:World}{b k:Nat}{s:ByteArray}{v:Value}(h:Blk w b s k v)(o:Nat):w.frozen? ⟨b,o,none⟩=false:=by simp[World.frozen?,show w.heap[b]? = _ from h]
theorem Blk.drewN{w:World}{b k:Nat}{s:ByteArray}{v:Value}(h:Blk w b s k v)(n:Nat):Blk (w.drewN n) b s k v:=h
theorem Blk.lt{w:World}{b k:Nat}{s:ByteArray}{v:Value}(h:Blk w b s k v):b<w.heap.size:=lt_of_block h
theorem Blk.set1{w:World}{b k:Nat}{s:ByteArray}{v:Value}(h:Blk w b s k v)(j:Nat):Blk (w.setCell ⟨b,1,none⟩ (.int .i64 (j:Int))) b s j v:=by
 have hlt:=lt_of_block h
 have h':w.heap[b]=.cells #[.string s,.int .i64 (k:Int),v] 113 (0,0):=by have:=h;unfold Blk at this;simpa[Array.getElem?_eq_getElem hlt] using this
 show (w.heap.modify b _)[b]? = _
 rw[Array.getElem?_eq_getElem (by simpa using hlt),Array.getElem_modify_self,h']
 rfl
theorem Blk.set2{w:World}{b k:Nat}{s:ByteArray}{v:Value}(h:Blk w b s k v)(u:Value):Blk (w.setCell ⟨b,2,none⟩ u) b s k u:=by
 have hlt:=lt_of_block h
 have h':w.heap[b]=.cells #[.string s,.int .i64 (k:Int),v] 113 (0,0):=by have:=h;unfold Blk at this;simpa[Array.getElem?_eq_getElem hlt] using this
 show (w.heap.modify b _)[b]? = _
 rw[Array.getElem?_eq_getElem (by simpa using hlt),Array.getElem_modify_self,h']
 rfl
theorem quiet_same{P:Program}{f:FuncId}{args:Array Value}{w:World}{n:Nat}{v:Value}
  (h:Calls P f args (w.drewN n) fun e w'=>e=.returned v∧w.drewN n=w'):Calls P f args (w.drewN n) fun e w''=>e=.returned v∧∃m,w''=w.drewN m:=
 h.mono fun _ _ ⟨he,hm⟩=>⟨he,n,hm.symm⟩
def adv(p:UInt8→Bool)(s:ByteArray)(k:Nat):Nat:=k+((s.data.toList.drop k).takeWhile p).length
theorem takeWhile_split(p:UInt8→Bool):∀(l:List UInt8) (n:Nat),n≤l.length→(∀i (h:i<l.length),i<n→p l[i]=true)→(∀h:n<l.length,p l[n]=false)→(l.takeWhile p).length=n
 |[],n,hn,_,_=>by simp at hn;simp[hn]
 |c::r,0,_,_,h=>by
  have:=h (by simp)
  simp at this
  simp[this]
 |c::r,n+1,hn,ha,h=>by
  have h0:p c=true:=ha 0 (by simp) (by omega)
  have ih:=takeWhile_split p r n (by simpa using hn) (fun i hi hin=>by have:=ha (i+1) (by simpa using hi) (by omega);simpa using this) (fun hlt=>by have:=h (by simpa using hlt);simpa using this)
  simp[h0,ih]
theorem adv_eq{p:UInt8→Bool}{s:ByteArray}{k j:Nat}(hkj:k≤j)(hj:j≤s.size)(ha:∀i (h:i<s.size),k≤i→i<j→p s[i]=true)(he:∀h:j<s.size,p s[j]=false):adv p s k=j:=by
 have hl:s.data.toList.length=s.size:=rfl
 have:=takeWhile_split p (s.data.toList.drop k) (j-k) (by simp only[List.length_drop];omega)
  (fun i hi hin=>by
   have hi':k+i<s.size:=by simp only[List.length_drop] at hi;omega
   have:=ha (k+i) hi' (by omega) (by omega)
   simp only[List.getElem_drop]
   exact this)
  (fun hlt=>by
   have hlt':j<s.size:=by simp only[List.length_drop] at hlt;omega
   have:=he hlt'
   have e:k+(j-k)=j:=by omega
   simp only[List.getElem_drop,e]
   exact this)
 unfold adv
 omega
set_option maxHeartbeats 1000000 in
theorem more_any(f:Nat)(p:UInt8→Bool)(hf:ByteFn f p)(b k:Nat)(s:ByteArray)(v:Value)(w:World)(hb:Blk w b s k v)(hk:k≤s.size)(hs:s.size≤1000000) :
  Calls Tryd.prog 56 #[.pointer (some ⟨b,0,none⟩),.func (.func f) #[] #[]] w fun e w'=>e=.returned (.string (s.extract k (adv p s k)))∧Blk w' b s (adv p s k) v∧w.grownBy w' (some b):=by
 obtain⟨hcf,hf⟩:=hf
 have HF:=Lib.hid hf
 clear hf
 have hc1:=hb.c1
 go_enter Tryd.func56,Tryd.ntmps56
 go_wp2_with fail
 go_loopg [] (s.size-k) (fun g wr=>∃j:Nat,k≤j∧j≤s.size∧s.size-j=g∧Blk wr b s j v∧w.grownBy wr (some b)∧∀i (h:i<s.size),k≤i→i<j→p s[i]=true)
 case atStart=>exact⟨k,Nat.le_refl _,hk,rfl,hb,grown_refl _ _,fun i _ h1 h2=>by omega⟩
 case round=>
  obtain⟨j,hkj,hj,hg,hbj,hgr,hall⟩:=hrel
  have HG:=Lib.hid hg
  have HA:=Lib.hid hall
  clear hg hall hc1
  have c0:=hbj.c0
  have c1:=hbj.c1
  by_cases hlt:j<s.size
  ·have hd:decide ((j:Int)<(s.size:Int))=true:=by simp;omega
   cases hi:p s[j]
   all_goals go_wp2_with fail
   all_goals go_quiet (exact quiet_same (HF.out _ _))
   ·have HE:=Lib.hid (adv_eq hkj hj HA.out (fun _=>hi))
    have hb2:=hbj.drewN nq
    have hg2:=grown_drewN hgr nq
    clear c0 c1 hbj hgr
    generalize wr.drewN nq=w2 at *
    have c0:=hb2.c0
    have c1:=hb2.c1
    go_wp2_with fail
    go_quiet (fail)
    go_wp2_with fail
    go_ret
    rw[HE.out]
    exact⟨rfl,hb2.drewN _,grown_drewN hg2 _⟩
   ·have hb2:=hbj.drewN nq
    have hg2:=grown_drewN hgr nq
    clear c0 c1 hbj hgr
    generalize wr.drewN nq=w2 at *
    have c0:=hb2.c0
    have c1:=hb2.c1
    have f1:=hb2.f 1
    go_wp2_with fail
    go_roundg (s.size-(j+1))
    case measure=>have:=HG.out;omega
    case rel=>
     refine⟨j+1,by omega,by omega,rfl,hb2.set1 (j+1),grown_setCell hg2 _ _,?_⟩
     intro i h1 h2 h3
     by_cases e:i=j
     ·subst e;exact hi
     ·exact HA.out i h1 h2 (by omega)
  ·have hd:decide ((j:Int)<(s.size:Int))=false:=by simp;omega
   have HE:=Lib.hid (adv_eq (p:=p) hkj hj HA.out (fun h=>absurd h hlt))
   go_wp2_with fail
   go_quiet (fail)
   have hb2:=hbj.drewN nq
   have hg2:=grown_drewN hgr nq
   clear c0 c1 hbj hgr
   generalize wr.drewN nq=w2 at *
   have c0:=hb2.c0
   have c1:=hb2.c1
   go_wp2_with fail
   go_quiet (fail)
   go_wp2_with fail
   go_ret
   rw[HE.out]
   exact⟨rfl,hb2.drewN _,grown_drewN hg2 _⟩
end Go.Proofs.YtfphhabaeggenaaDoor.Lx
namespace Go.Proofs.YtfphhabaeggenaaDoor.Lx
set_option maxRecDepth 20000
open Go.RowKit
set_option maxHeartbeats 1000000 in
theorem moreLine_any(b k:Nat)(s:ByteArray)(v:Value)(w:World)(hb:Blk w b s k v)(hk:k≤s.size)(hs:s.size≤1000000) :
  Calls Tryd.prog 56 #[.pointer (some ⟨b,0,none⟩),.func (.func 58) #[.pointer (some ⟨b,0,none⟩)] #[]] w fun e w'=>e=.returned (.string (s.extract k (adv lineB s k)))∧Blk w' b s (adv lineB s k) v∧w.grownBy w' (some b):=by
 have hcf:∀(args:Array Value) (w:World),Sem.run Tryd.prog (callFunc 41 args) w=.ok (.enter 41 args) w:=fun _ _=>by kernel_rfl
 have HF:=Lib.hid (line_any (.pointer (some ⟨b,0,none⟩)))
 have hc1:=hb.c1
 go_enter Tryd.func56,Tryd.ntmps56
 go_wp2_with fail
 go_loopg [] (s.size-k) (fun g wr=>∃j:Nat,k≤j∧j≤s.size∧s.size-j=g∧Blk wr b s j v∧w.grownBy wr (some b)∧∀i (h:i<s.size),k≤i→i<j→lineB s[i]=true)
 case atStart=>exact⟨k,Nat.le_refl _,hk,rfl,hb,grown_refl _ _,fun i _ h1 h2=>by omega⟩
 case round=>
  obtain⟨j,hkj,hj,hg,hbj,hgr,hall⟩:=hrel
  have HG:=Lib.hid hg
  have HA:=Lib.hid hall
  clear hg hall hc1
  have c0:=hbj.c0
  have c1:=hbj.c1
  by_cases hlt:j<s.size
  ·have hd:decide ((j:Int)<(s.size:Int))=true:=by simp;omega
   cases hi:lineB s[j]
   all_goals go_wp2_with fail
   all_goals go_quiet (exact quiet_same (HF.out _ _))
   ·have HE:=Lib.hid (adv_eq hkj hj HA.out (fun _=>hi))
    have hb2:=hbj.drewN nq
    have hg2:=grown_drewN hgr nq
    clear c0 c1 hbj hgr
    generalize wr.drewN nq=w2 at *
    have c0:=hb2.c0
    have c1:=hb2.c1
    go_wp2_with fail
    go_quiet (fail)
    go_wp2_with fail
    go_ret
    rw[HE.out]
    exact⟨rfl,hb2.drewN _,grown_drewN hg2 _⟩
   ·have hb2:=hbj.drewN nq
    have hg2:=grown_drewN hgr nq
    clear c0 c1 hbj hgr
    generalize wr.drewN nq=w2 at *
    have c0:=hb2.c0
    have c1:=hb2.c1
    have f1:=hb2.f 1
    go_wp2_with fail
    go_roundg (s.size-(j+1))
    case measure=>have:=HG.out;omega
    case rel=>
     refine⟨j+1,by omega,by omega,rfl,hb2.set1 (j+1),grown_setCell hg2 _ _,?_⟩
     intro i h1 h2 h3
     by_cases e:i=j
     ·subst e;exact hi
     ·exact HA.out i h1 h2 (by omega)
  ·have hd:decide ((j:Int)<(s.size:Int))=false:=by simp;omega
   have HE:=Lib.hid (adv_eq (p:=lineB) hkj hj HA.out (fun h=>absurd h hlt))
   go_wp2_with fail
   go_quiet (fail)
   have hb2:=hbj.drewN nq
   have hg2:=grown_drewN hgr nq
   clear c0 c1 hbj hgr
   generalize wr.drewN nq=w2 at *
   have c0:=hb2.c0
   have c1:=hb2.c1
   go_wp2_with fail
   go_quiet (fail)
   go_wp2_with fail
   go_ret
   rw[HE.out]
   exact⟨rfl,hb2.drewN _,grown_drewN hg2 _⟩
theorem adv_ge(p:UInt8→Bool)(s:ByteArray)(k:Nat):k≤adv p s k:=Nat.le_add_right _ _
theorem adv_le(p:UInt8→Bool)(s:ByteArray)(k:Nat)(hk:k≤s.size):adv p s k≤s.size:=by
 have h1:=(List.takeWhile_sublist p (l:=s.data.toList.drop k)).length_le
 have hl:s.data.toList.length=s.size:=rfl
 rw[List.length_drop] at h1
 unfold adv
 omega
theorem drop_takeWhile(p:UInt8→Bool):∀l:List UInt8,l.drop (l.takeWhile p).length=l.dropWhile p
 |[]=>rfl
 |c::r=>by
  cases h:p c
  ·simp[h]
  ·simp[h,drop_takeWhile p r]
theorem adv_drop(p:UInt8→Bool)(s:ByteArray)(k:Nat):s.data.toList.drop (adv p s k)=(s.data.toList.drop k).dropWhile p:=by
 unfold adv
 rw[←List.drop_drop,drop_takeWhile]
theorem take_takeWhile(p:UInt8→Bool):∀l:List UInt8,l.take (l.takeWhile p).length=l.takeWhile p
 |[]=>rfl
 |c::r=>by
  cases h:p c
  ·simp[h]
  ·simp[h,take_takeWhile p r]
theorem adv_text(p:UInt8→Bool)(s:ByteArray)(k:Nat):(s.extract k (adv p s k)).data.toList=(s.data.toList.drop k).takeWhile p:=by
 rw[Lib.extract_data]
 unfold adv
 rw[Nat.add_sub_cancel_left,take_takeWhile]
def skipC:Bool→List UInt8→List UInt8
 |_,[]=>[]
 |true,c::r=>if c.toNat=10 then skipC false r else skipC true r
 |false,c::r=>if blankB c=true then skipC false r else if c.toNat=35 then skipC true r else c::r
theorem skipC_blank:∀l:List UInt8,skipC false l=skipC false (l.dropWhile blankB)
 |[]=>rfl
 |c::r=>by
  by_cases h:blankB c=true
  ·rw[List.dropWhile_cons_of_pos h,←skipC_blank r];simp[skipC,h]
  ·rw[List.dropWhile_cons_of_neg h]
theorem skipC_line:∀l:List UInt8,skipC true l=skipC false (l.dropWhile lineB)
 |[]=>rfl
 |c::r=>by
  by_cases h:c.toNat=10
  ·have hl:¬lineB c=true:=by simp[lineB,h]
   have hb:blankB c=true:=by simp[blankB,h]
   rw[List.dropWhile_cons_of_neg hl];simp[skipC,h,hb]
  ·have hl:lineB c=true:=by simp[lineB,h]
   rw[List.dropWhile_cons_of_pos hl,←skipC_line r];simp[skipC,h]
theorem skipC_length:∀(b:Bool) (l:List UInt8),(skipC b l).length≤l.length
 |_,[]=>by simp[skipC]
 |true,c::r=>by
  have h1:=skipC_length false r
  have h2:=skipC_length true r
  simp only[skipC,List.length_cons]
  split<;>omega
 |false,c::r=>by
  have h1:=skipC_length false r
  have h2:=skipC_length true r
  simp only[skipC,List.length_cons]
  split
  ·omega
  ·split
   ·omega
   ·simp
def skipPos(s:ByteArray)(k:Nat):Nat:=s.size-(skipC false (s.data.toList.drop k)).length
theorem drop_at(s:ByteArray)(k:Nat)(h:k<s.size):s.data.toList.drop k=s[k]::s.data.toList.drop (k+1):=by
 rw[List.drop_eq_getElem_cons (by simpa using h)];rfl
theorem skip_end{s:ByteArray}{k j:Nat}(hj:j≤s.size)(he:skipC false (s.data.toList.drop k)=skipC false (s.data.toList.drop j))(hnb:∀h:j<s.size,blankB s[j]=false)(hh:∀h:j<s.size,s[j].toNat≠35):skipPos s k=j:=by
 unfold skipPos
 rw[he]
 have hl:s.data.toList.length=s.size:=rfl
 by_cases h:j<s.size
 ·rw[drop_at s j h]
  have h1:=hnb h
  have h2:=hh h
  simp only[skipC,h1,h2,if_false,Bool.false_eq_true,List.length_cons,List.length_drop]
  omega
 ·rw[List.drop_eq_nil_of_le (by omega)]
  simp only[skipC,List.length_nil]
  omega
theorem adv_stop{p:UInt8→Bool}{s:ByteArray}{k:Nat}(h:adv p s k<s.size):p s[adv p s k]=false:=by
 have e:=adv_drop p s k
 rw[drop_at s _ h] at e
 cases hp:p s[adv p s k]
 ·rfl
 ·exfalso
  have:∀l:List UInt8,∀c r,c::r=l.dropWhile p→p c=true→False:=by
   intro l
   induction l with
   |nil=>intro c r h;simp at h
   |cons x y ih=>
    intro c r h hc
    by_cases hx:p x=true
    ·rw[List.dropWhile_cons_of_pos hx] at h;exact ih c r h hc
    ·rw[List.dropWhile_cons_of_neg hx] at h
     cases h;exact hx hc
  exact this _ _ _ e hp
set_option maxHeartbeats 1000000 in
theorem skip_any(b k:Nat)(s:ByteArray)(v:Value)(w:World)(hb:Blk w b s k v)(hk:k≤s.size)(hs:s.size≤1000000) :
  Calls Tryd.prog 40 #[.pointer (some ⟨b,0,none⟩)] w fun e w'=>e=.returned (.tuple #[])∧Blk w' b s (skipPos s k) v∧w.grownBy w' (some b):=by
 go_enter Tryd.func40,Tryd.ntmps40
 go_wp2_with fail
 go_loopg [] (s.size-k) (fun g wr=>∃j:Nat,j≤s.size∧s.size-j=g∧Blk wr b s j v∧w.grownBy wr (some b)∧skipC false (s.data.toList.drop k)=skipC false (s.data.toList.drop j))
 case atStart=>exact⟨k,hk,rfl,hb,grown_refl _ _,rfl⟩
 case round=>
  obtain⟨j,hj,hg,hbj,hgr,hsk⟩:=hrel
  have HG:=Lib.hid hg
  have HS:=Lib.hid hsk
  clear hg hsk
  go_wp2_with fail
  refine(more_any 57 blankB blank_fn b j s v _ hbj hj hs).mono ?_
  rintro e w1 ⟨rfl,hb1,hg1⟩
  have hge:=adv_ge blankB s j
  have hle:=adv_le blankB s j hj
  have hst:=adv_stop (p:=blankB) (s:=s) (k:=j)
  have hdr:=adv_drop blankB s j
  generalize adv blankB s j=j1 at *
  have HST:=Lib.hid hst
  have HS1:Hid (skipC false (s.data.toList.drop k)=skipC false (s.data.toList.drop j1)):=by
   rw[hdr];exact HS.out.trans (skipC_blank _)
  clear hst hdr HS
  have hg2:=grown_trans hgr hg1
  clear hgr hg1 hbj hb
  have c0:=hb1.c0
  have c1:=hb1.c1
  by_cases hlt:j1<s.size
  ·have hd:((j1:Int)==(s.size:Int))=false:=by simp;omega
   by_cases h35:s[j1].toNat=35
   ·have hd2:((s[j1].toNat:Int) != 35)=false:=by simp[h35]
    have H35:=Lib.hid h35
    clear h35
    go_wp2_with fail
    go_quiet (fail)
    have hb2:=hb1.drewN nq
    have hg3:=grown_drewN hg2 nq
    clear c0 c1 hb1 hg2
    generalize w1.drewN nq=w2 at *
    go_wp2_with fail
    refine(moreLine_any b j1 s v _ hb2 hle hs).mono ?_
    rintro e w3 ⟨rfl,hb3,hg4⟩
    have hge2:j1<adv lineB s j1:=by
     unfold adv
     rw[drop_at s j1 hlt]
     have:lineB s[j1]=true:=by simp[lineB,H35.out]
     simp[this]
    have hle2:=adv_le lineB s j1 hle
    have HS2:Hid (skipC false (s.data.toList.drop k)=skipC false (s.data.toList.drop (adv lineB s j1))):=by
     show skipC false (s.data.toList.drop k)=skipC false (s.data.toList.drop (adv lineB s j1))
     rw[HS1.out,adv_drop,drop_at s j1 hlt]
     have h1:=HST.out hlt
     have h2:=H35.out
     have h3:lineB s[j1]=true:=by simp[lineB,h2]
     rw[List.dropWhile_cons_of_pos h3,←skipC_line]
     simp[skipC,h1,h2]
    generalize adv lineB s j1=j2 at *
    go_wp2_with fail
    go_roundg (s.size-j2)
    case measure=>have:=HG.out;omega
    case rel=>exact⟨j2,hle2,rfl,hb3,grown_trans hg3 hg4,HS2.out⟩
   ·have hd2:((s[j1].toNat:Int) != 35)=true:=by simp;omega
    have HE:=Lib.hid (skip_end hle HS1.out HST.out (fun _=>h35))
    clear h35
    go_wp2_with fail
    go_quiet (fail)
    go_wp2_with fail
    refine bodyPost_ret (results_none rfl _ _ _) rfl ?_
    rw[HE.out]
    exact⟨rfl,hb1.drewN _,grown_drewN hg2 _⟩
  ·have hd:((j1:Int)==(s.size:Int))=true:=by simp;omega
   have HE:=Lib.hid (skip_end hle HS1.out HST.out (fun h=>absurd h hlt))
   go_wp2_with fail
   go_quiet (fail)
   go_wp2_with fail
   refine bodyPost_ret (results_none rfl _ _ _) rfl ?_
   rw[HE.out]
   exact⟨rfl,hb1.drewN _,grown_drewN hg2 _⟩
end Go.Proofs.YtfphhabaeggenaaDoor.Lx
namespace Go.Proofs.YtfphhabaeggenaaDoor.Lx
set_option maxRecDepth 20000
open Go.RowKit
structure Tok where
 kind:Int
 text:ByteArray
 n:Int
 at_:Nat
def Tok.cells(t:Tok):List Value:=[.int .i64 t.kind,.string t.text,.int .i64 t.n,.int .i64 (t.at_:Int)]
def tokCells(ts:List Tok):List Value:=ts.flatMap Tok.cells
theorem tokCells_snoc(ts:List Tok)(t:Tok):tokCells (ts++[t])=tokCells ts++t.cells:=by simp[tokCells]
def Sc(w:World)(b:Nat)(s:ByteArray)(k:Nat)(ts:List Tok):Prop:=∃v,Blk w b s k v∧w.ownsRow (b+1) 85 4 v ts.length (tokCells ts)
theorem Sc.moved{w w':World}{b k':Nat}{s:ByteArray}{ts:List Tok}{v:Value}(ho:w.ownsRow (b+1) 85 4 v ts.length (tokCells ts))(hb':Blk w' b s k' v)(hg:w.grownBy w' (some b)):Sc w' b s k' ts:=by
 refine⟨v,hb',ho.kept hg ?_⟩
 cases hv:v.ownBlock with
 |none=>exact .inl rfl
 |some g=>exact .inr (fun e=>by have:=(ho.lt g hv).1;cases e;omega)
theorem below_of_grown{w w':World}{b:Nat}(hg:w.grownBy w' (some b))(hb:b≤w.heap.size):Below b w w':=
 (Below.refl b w).grown hg hb (fun k hk=>by cases hk;exact Nat.le_refl _)
theorem info35:(Tryd.prog.info? 85).map (fun i=>(i.zero,i.size,i.bytes))=some (some (.agg #[.int .i64 0,.string ⟨#[]⟩,.int .i64 0,.int .i64 0]),4,40):=by kernel_rfl
theorem cells_new(w:World)(xs:List Value)(t:TypeId):∀(j:Nat) (u:Value),xs[j]? = some u→(w.alloc (.cells xs.toArray t)).cell? ((⟨w.heap.size,0,none⟩:Addr).add j)=some u:=by
 intro j u h
 have hadd:(⟨w.heap.size,0,none⟩:Addr).add j=⟨w.heap.size,j,none⟩:=by unfold Addr.add;split<;>simp_all
 rw[hadd,cell_of_row _ w.heap.size j xs.toArray t (0,0) (heap_alloc_new w _)]
 simpa using h
theorem tok_one(t:Tok):∀u,u∈t.cells→u.oneCell'=true:=by
 intro u h
 simp[Tok.cells] at h
 rcases h with rfl|rfl|rfl|rfl<;>rfl
theorem owned_some{w:World}{base:Nat}{e:TypeId}{size:Nat}{v:Value}{n:Nat}{xs:List Value}(h:w.ownsRow base e size v (n+1) xs):∃g cap,v=.slice (some ⟨g,0,none⟩) (n+1) cap:=by
 rcases h.2 with⟨_,h0⟩|⟨g,cap,_,hv,_⟩
 ·omega
 ·exact⟨g,cap,hv⟩
theorem Blk.later{w w1:World}{b k:Nat}{s:ByteArray}{v:Value}(h:Blk w b s k v)(o:Obj){r:Option Nat}(hg:(w.alloc o).grownBy w1 r)(hr:r≠some b):Blk w1 b s k v:=by
 unfold Blk at *
 rw[hg.block b (by have:=lt_of_block h;simp;omega) (fun e=>hr e.symm),Below.heap_alloc w o b (lt_of_block h)]
 exact h
theorem own_ne{w:World}{b:Nat}{v:Value}{n:Nat}{xs:List Value}(ho:w.ownsRow (b+1) 85 4 v n xs):v.ownBlock≠some b:=by
 intro e
 have:=(ho.lt b e).1
 omega
set_option maxHeartbeats 400000 in
theorem put_long(b:Nat)(kind n:Int)(text:ByteArray)(at_:Int)(w:World)(h3:kind≠3)(h4:kind≠4)(hl:40<(text.size:Int)) :
  Calls Tryd.prog 42 #[.pointer (some ⟨b,0,none⟩),.int .i64 kind,.string text,.int .i64 n,.int .i64 at_] w fun e w'=>e=.returned (.int .i64 104)∧w=w':=by
 have h3':(kind != 3)=true:=by simp[h3]
 have h4':(kind != 4)=true:=by simp[h4]
 go_enter Tryd.func42,Tryd.ntmps42
 go_wp2
 go_ret
 exact⟨rfl,rfl⟩
set_option maxHeartbeats 1000000 in
theorem put_any(b:Nat)(s:ByteArray)(k:Nat)(ts:List Tok)(kind n:Int)(text:ByteArray)(at_:Nat)(w:World)(hsc:Sc w b s k ts)(hts:ts.length≤1000000)
  (h:kind=3∨kind=4∨(text.size:Int)≤40) :
  Calls Tryd.prog 42 #[.pointer (some ⟨b,0,none⟩),.int .i64 kind,.string text,.int .i64 n,.int .i64 (at_:Int)] w fun e w'=>e=.returned (.int .i64 0)∧Sc w' b s k (ts++[⟨kind,text,n,at_⟩])∧Below b w w':=by
 obtain⟨v,hb,ho⟩:=hsc
 obtain⟨i0,hi,hz0,hz1,hz2⟩:=info_parts info35
 have c2:=hb.c2
 have hlt:=hb.lt
 have hcase:(kind != 3)=false∨((kind != 3)=true∧(kind != 4)=false)∨((kind != 3)=true∧(kind != 4)=true∧(text.size:Int)≤40):=by
  simp only[bne_iff_ne,bne_eq_false_iff_eq]
  omega
 clear h
 rcases hcase with h3|⟨h3,h4⟩|⟨h3,h4,h40⟩
 all_goals
  go_enter Tryd.func42,Tryd.ntmps42
  go_wp2_with (at_builtin;refine wpList_append_own _ rfl _ _ 76 rfl (b+1) 85 i0 (.agg #[.int .i64 0,.string ⟨#[]⟩,.int .i64 0,.int .i64 0]) 4 40 Tryd.underlying76 hi hz0 hz1 hz2 rfl (by decide) v ts.length (tokCells ts) rfl (ho.alloc _) ⟨w.heap.size,0,none⟩ 1 1 (Tok.cells ⟨kind,text,n,at_⟩) rfl rfl ?_ ?_ ?_ ?_ ?_ ?_)
  ·exact cells_new w (Tok.cells ⟨kind,text,n,at_⟩) 85
  ·exact tok_one _
  ·unfold maxLen;omega
  ·omega
  ·simp;omega
  ·intro v' w1 ho' hgr _
   have hne:=own_ne ho
   have hb1:=hb.later _ hgr hne
   have hbl:Below b w w1:=((Below.refl b w).alloc (by omega) _).grown hgr (by simp;omega) (fun g hg=>by have:=(ho.lt g hg).1;omega)
   obtain⟨g,cap,hv⟩:=owned_some ho'
   rw[hv] at ho' ⊢
   have f2:=hb1.f 2
   have c2':=hb1.c2
   have HO:=Lib.hid ho'
   have HG:=Lib.hid hgr
   clear c2 ho hb ho' hgr hv
   go_wp2
   go_ret
   refine⟨rfl,⟨_,hb1.set2 _,?_⟩,hbl.setCell (Nat.le_refl _) _⟩
   rw[tokCells_snoc,List.length_append]
   exact ownsRow_setCell_below HO.out (by simp) _
end Go.Proofs.YtfphhabaeggenaaDoor.Lx
namespace Go.Proofs.YtfphhabaeggenaaDoor.Lx
set_option maxRecDepth 20000
open Go.RowKit
def Got(w:World)(b:Nat)(s:ByteArray)(ts:List Tok)(r:Except Int (Tok×Nat))(e:Ending)(w':World):Prop:=
 match r with
 |.ok (t,j)=>e=.returned (.int .i64 0)∧Sc w' b s j (ts++[t])∧Below b w w'
 |.error c=>e=.returned (.int .i64 c)∧Below b w w'
theorem Got.after{w w1:World}{b:Nat}{s:ByteArray}{ts:List Tok}{r:Except Int (Tok×Nat)}{e:Ending}{w':World}(hb:Below b w w1)(h:Got w1 b s ts r e w'):Got w b s ts r e w':=by
 unfold Got at *
 split at h
 ·exact⟨h.1,h.2.1,hb.trans h.2.2⟩
 ·exact⟨h.1,hb.trans h.2⟩
theorem Got.is{w:World}{b:Nat}{s:ByteArray}{ts:List Tok}{r:Except Int (Tok×Nat)}{e:Ending}{w':World}(h:Got w b s ts r e w'):∃c,e=.returned (.int .i64 c):=by
 unfold Got at h
 split at h
 ·exact⟨_,h.1⟩
 ·exact⟨_,h.1⟩
def putR(kind:Int)(x:ByteArray)(n:Int)(at_:Nat)(k:Nat):Except Int (Tok×Nat):=
 if kind≠3∧kind≠4∧40<(x.size:Int) then .error 104 else .ok (⟨kind,x,n,at_⟩,k)
theorem put_got(b:Nat)(s:ByteArray)(k:Nat)(ts:List Tok)(kind n:Int)(x:ByteArray)(at_:Nat)(w:World)(hsc:Sc w b s k ts)(hts:ts.length≤1000000) :
  Calls Tryd.prog 42 #[.pointer (some ⟨b,0,none⟩),.int .i64 kind,.string x,.int .i64 n,.int .i64 (at_:Int)] w (Got w b s ts (putR kind x n at_ k)):=by
 by_cases h:kind≠3∧kind≠4∧40<(x.size:Int)
 ·refine(put_long b kind n x at_ w h.1 h.2.1 h.2.2).mono ?_
  rintro e w' ⟨rfl,rfl⟩
  unfold Got putR
  rw[if_pos h]
  exact⟨rfl,Below.refl _ _⟩
 ·refine(put_any b s k ts kind n x at_ w hsc hts (by omega)).mono ?_
  rintro e w' ⟨rfl,h1,h2⟩
  unfold Got putR
  rw[if_neg h]
  exact⟨rfl,h1,h2⟩
def kindW(x:ByteArray):Int:=if keyB x=true then 6 else if(x.toList==[95])=true then 7 else if headB upB x=true then 2 else 1
def wordR(s:ByteArray)(k:Nat):Except Int (Tok×Nat):=putR (kindW (s.extract k (adv insideB s k))) (s.extract k (adv insideB s k)) 0 k (adv insideB s k)
theorem size_extract(s:ByteArray)(k j:Nat)(hj:j≤s.size):(s.extract k j).size=j-k:=by
 simp[ByteArray.size_extract];omega
set_option maxHeartbeats 1000000 in
theorem word_any(b k:Nat)(s:ByteArray)(ts:List Tok)(w:World)(hsc:Sc w b s k ts)(hk:k<s.size)(hs:s.size≤1000000)(hts:ts.length≤1000000)(hin:insideB s[k]=true) :
  Calls Tryd.prog 61 #[.pointer (some ⟨b,0,none⟩)] w (Got w b s ts (wordR s k)):=by
 obtain⟨v,hb,ho⟩:=hsc
 have c1:=hb.c1
 go_enter Tryd.func61,Tryd.ntmps61
 go_wp2_with fail
 refine(more_any 71 insideB inside_fn b k s v _ hb (by omega) hs).mono ?_
 rintro e w1 ⟨rfl,hb1,hg1⟩
 have hsc1:=Sc.moved ho hb1 hg1
 have hbl:=below_of_grown hg1 (Nat.le_of_lt hb.lt)
 have hlt:k<adv insideB s k:=by
  unfold adv
  rw[drop_at s k hk]
  simp[hin]
 have hle:=adv_le insideB s k (by omega)
 have HR:Hid (wordR s k=putR (kindW (s.extract k (adv insideB s k))) (s.extract k (adv insideB s k)) 0 k (adv insideB s k)):=rfl
 have hsz:=size_extract s k (adv insideB s k) hle
 have hx0:0<(s.extract k (adv insideB s k)).size:=by omega
 clear hsz hb1 hg1 ho hb c1
 generalize s.extract k (adv insideB s k)=x at *
 generalize adv insideB s k=j at *
 have HH:=Lib.hid (headB_at upB x hx0)
 have hkind:(keyB x=true∧kindW x=6)∨(keyB x=false∧(x.toList==[95])=true∧kindW x=7)∨(keyB x=false∧(x.toList==[95])=false∧upB x[0]=true∧kindW x=2)∨(keyB x=false∧(x.toList==[95])=false∧upB x[0]=false∧kindW x=1):=by
  unfold kindW
  rw[HH.out]
  cases keyB x<;>cases(x.toList==[95])<;>cases upB x[0]<;>simp
 clear HH
 rcases hkind with⟨h1,h4⟩|⟨h1,h2,h4⟩|⟨h1,h2,h3,h4⟩|⟨h1,h2,h3,h4⟩
 all_goals
  have HK:=Lib.hid h4
  clear h4
  go_wp2_with (first|(go_at_call 72;refine(key_any _ _).mono ?_;rintro e w' ⟨rfl,rfl⟩)|(go_at_call 60;refine(up_any _ _).mono ?_;rintro e w' ⟨rfl,rfl⟩))
  refine(put_got b s j ts _ _ x k _ hsc1 hts).mono ?_
  rintro e w2 hgot
  obtain⟨c,rfl⟩:=hgot.is
  have HGOT:=Lib.hid hgot
  clear hgot
  go_wp2_with fail
  go_ret
  rw[HR.out,HK.out]
  exact Got.after hbl HGOT.out
end Go.Proofs.YtfphhabaeggenaaDoor.Lx
