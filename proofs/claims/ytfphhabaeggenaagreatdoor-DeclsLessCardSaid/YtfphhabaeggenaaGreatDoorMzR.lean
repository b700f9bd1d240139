import Derived.Test.YtfphhabaeggenaaGreatDoorMz1
import Derived.Test.YtfphhabaeggenaaGreatDoorMz2
import Derived.Test.YtfphhabaeggenaaGreatDoorMz3
import Derived.Test.YtfphhabaeggenaaGreatDoorMz4
import Derived.Test.YtfphhabaeggenaaGreatDoorBaj
import Derived.KernelRfl
set_option linter.all false
namespace Go.Proofs.YtfphhabaeggenaaGreatDoor
open Go.RowKit
set_option maxRecDepth 100000
theorem tabs:yc PG SS EE:=yc.of (by kernel_rfl) (by kernel_rfl) (by kernel_rfl)
theorem avN:uh (aL PG SS EE TT) 0:=trivial
theorem am4:uh (aL PG SS EE TT) 20:=⟨⟨⟨⟨⟨⟨⟨⟨⟨⟨⟨⟨⟨⟨⟨⟨⟨⟨⟨⟨avN,ru0⟩,ru1⟩,ru2⟩,ru3⟩,ru4⟩,ru5⟩,ru6⟩,ru7⟩,ru8⟩,ru9⟩,axk⟩,axj⟩,axi⟩,axh⟩,axg⟩,axf⟩,axe⟩,axd⟩,axc⟩,axb⟩
theorem am3:uh (aL PG SS EE TT) 40:=⟨⟨⟨⟨⟨⟨⟨⟨⟨⟨⟨⟨⟨⟨⟨⟨⟨⟨⟨⟨am4,axa⟩,aw9⟩,aw8⟩,aw7⟩,aw6⟩,aw5⟩,aw4⟩,aw3⟩,aw2⟩,aw1⟩,aw0⟩,awZ⟩,awY⟩,awX⟩,awW⟩,awV⟩,awU⟩,awT⟩,awS⟩,awR⟩
theorem am2:uh (aL PG SS EE TT) 60:=⟨⟨⟨⟨⟨⟨⟨⟨⟨⟨⟨⟨⟨⟨⟨⟨⟨⟨⟨⟨am3,awQ⟩,awP⟩,awO⟩,awN⟩,awM⟩,awK⟩,awJ⟩,awI⟩,awH⟩,awG⟩,awF⟩,awE⟩,awD⟩,awC⟩,awz⟩,awy⟩,awx⟩,aww⟩,awv⟩,awu⟩
theorem am1:uh (aL PG SS EE TT) 80:=⟨⟨⟨⟨⟨⟨⟨⟨⟨⟨⟨⟨⟨⟨⟨⟨⟨⟨⟨⟨am2,awt⟩,aws⟩,awr⟩,awq⟩,awp⟩,awo⟩,awn⟩,awm⟩,awl⟩,awk⟩,awj⟩,awi⟩,awh⟩,awg⟩,awf⟩,awe⟩,awd⟩,awc⟩,av9⟩,av8⟩
theorem ajt:uh (aL PG SS EE TT) 100:=⟨⟨⟨⟨⟨⟨⟨⟨⟨⟨⟨⟨⟨⟨⟨⟨⟨⟨⟨⟨am1,av7⟩,av6⟩,av5⟩,av4⟩,av3⟩,av2⟩,av1⟩,av0⟩,avZ⟩,avY⟩,avX⟩,avW⟩,avV⟩,avU⟩,avT⟩,avS⟩,avR⟩,avQ⟩,avP⟩,avO⟩
theorem ajs:uh (aL PG SS EE TT) 120:=⟨⟨⟨⟨⟨⟨⟨⟨⟨⟨⟨⟨⟨⟨⟨⟨⟨⟨⟨⟨ajt,apM⟩,apL⟩,apK⟩,apJ⟩,apI⟩,apH⟩,apG⟩,apF⟩,apE⟩,apD⟩,apC⟩,apB⟩,apA⟩,apz⟩,apy⟩,apx⟩,apw⟩,apv⟩,apu⟩,apt⟩
theorem ajr:uh (aL PG SS EE TT) 140:=⟨⟨⟨⟨⟨⟨⟨⟨⟨⟨⟨⟨⟨⟨⟨⟨⟨⟨⟨⟨ajs,aps⟩,apr⟩,apo⟩,apn⟩,apm⟩,apl⟩,apk⟩,apj⟩,aph⟩,apg⟩,apf⟩,ape⟩,apc⟩,apb⟩,apa⟩,ao9⟩,ao8⟩,ao7⟩,ao6⟩,ao5⟩
theorem ajq:uh (aL PG SS EE TT) 160:=⟨⟨⟨⟨⟨⟨⟨⟨⟨⟨⟨⟨⟨⟨⟨⟨⟨⟨⟨⟨ajr,ao4⟩,ao3⟩,ao2⟩,ao1⟩,ao0⟩,aoZ⟩,aoY⟩,aoX⟩,aoW⟩,aoV⟩,aoU⟩,aoT⟩,aoS⟩,aoR⟩,aoQ⟩,aoP⟩,aoO⟩,aoN⟩,aoM⟩,aoL⟩
theorem ajp:uh (aL PG SS EE TT) 180:=⟨⟨⟨⟨⟨⟨⟨⟨⟨⟨⟨⟨⟨⟨⟨⟨⟨⟨⟨⟨ajq,aoK⟩,aoJ⟩,aoI⟩,aoH⟩,aoG⟩,aoF⟩,aoE⟩,aoD⟩,aoC⟩,aoB⟩,aoA⟩,aoz⟩,aoy⟩,aox⟩,aow⟩,aov⟩,aou⟩,aot⟩,aos⟩,aor⟩
theorem ajo:uh (aL PG SS EE TT) 200:=⟨⟨⟨⟨⟨⟨⟨⟨⟨⟨⟨⟨⟨⟨⟨⟨⟨⟨⟨⟨ajp,aoq⟩,aop⟩,aoo⟩,aon⟩,aom⟩,aol⟩,aok⟩,aoj⟩,aoi⟩,aoh⟩,aog⟩,aof⟩,aoe⟩,aod⟩,aoc⟩,aob⟩,aoa⟩,an9⟩,an8⟩,an7⟩
theorem ajn:uh (aL PG SS EE TT) 220:=⟨⟨⟨⟨⟨⟨⟨⟨⟨⟨⟨⟨⟨⟨⟨⟨⟨⟨⟨⟨ajo,an6⟩,an5⟩,an4⟩,an3⟩,an2⟩,an1⟩,an0⟩,anZ⟩,anY⟩,anX⟩,anW⟩,anV⟩,anU⟩,anT⟩,anS⟩,anR⟩,anQ⟩,anP⟩,anO⟩,anN⟩
theorem ajm:uh (aL PG SS EE TT) 240:=⟨⟨⟨⟨⟨⟨⟨⟨⟨⟨⟨⟨⟨⟨⟨⟨⟨⟨⟨⟨ajn,anM⟩,anL⟩,anK⟩,anJ⟩,anI⟩,anH⟩,anG⟩,anF⟩,anE⟩,anD⟩,anC⟩,anB⟩,anA⟩,anz⟩,anx⟩,anw⟩,anv⟩,anu⟩,ant⟩,anr⟩
theorem ajl:uh (aL PG SS EE TT) 260:=⟨⟨⟨⟨⟨⟨⟨⟨⟨⟨⟨⟨⟨⟨⟨⟨⟨⟨⟨⟨ajm,anq⟩,anp⟩,ano⟩,ann⟩,anm⟩,anl⟩,ank⟩,anj⟩,ani⟩,anh⟩,ang⟩,anf⟩,ane⟩,anc⟩,anb⟩,ana⟩,am9⟩,am8⟩,am7⟩,am6⟩
theorem ajk:uh (aL PG SS EE TT) 261:=⟨ajl,am5⟩
theorem aj0:∀k,261≤k→(EE k).base=none∧TT k=Ws:=fun k hk=>⟨by unfold EE;rw[qg dEn enL k (Nat.le_trans (by decide) hk)];rfl,by unfold TT;rw[qg Ws etL k (Nat.le_trans (by decide) hk)]⟩
theorem aaG{q:Q}{r:Rs}(h:ev q=some r)(hp:Pre EE q):tH PG SS EE q r∧Pst SS (EE q.k).fam r:=aS.sound tabs ajk.get aj0 h hp
end Go.Proofs.YtfphhabaeggenaaGreatDoor
