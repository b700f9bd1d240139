import Derived.Test.YtfphhabaeggenaaDoorMz1
import Derived.Test.YtfphhabaeggenaaDoorMz2
import Derived.Test.YtfphhabaeggenaaDoorMz3
import Derived.Test.YtfphhabaeggenaaDoorMz4
import Derived.Test.YtfphhabaeggenaaDoorBj
import Derived.KernelRfl
set_option linter.all false
namespace Go.Proofs.YtfphhabaeggenaaDoor
open Go.RowKit
set_option maxRecDepth 100000
theorem tabs:TabsOk PG SS EE:=TabsOk.of (by kernel_rfl) (by kernel_rfl) (by kernel_rfl)
theorem ru_0:AllK (RuleOk PG SS EE TT) 0:=trivial
theorem ru_20:AllK (RuleOk PG SS EE TT) 20:=⟨⟨⟨⟨⟨⟨⟨⟨⟨⟨⟨⟨⟨⟨⟨⟨⟨⟨⟨⟨ru_0,ru0⟩,ru1⟩,ru2⟩,ru3⟩,ru4⟩,ru5⟩,ru6⟩,ru7⟩,ru8⟩,ru9⟩,ru10⟩,ru11⟩,ru12⟩,ru13⟩,ru14⟩,ru15⟩,ru16⟩,ru17⟩,ru18⟩,ru19⟩
theorem ru_40:AllK (RuleOk PG SS EE TT) 40:=⟨⟨⟨⟨⟨⟨⟨⟨⟨⟨⟨⟨⟨⟨⟨⟨⟨⟨⟨⟨ru_20,ru20⟩,ru21⟩,ru22⟩,ru23⟩,ru24⟩,ru25⟩,ru26⟩,ru27⟩,ru28⟩,ru29⟩,ru30⟩,ru31⟩,ru32⟩,ru33⟩,ru34⟩,ru35⟩,ru36⟩,ru37⟩,ru38⟩,ru39⟩
theorem ru_60:AllK (RuleOk PG SS EE TT) 60:=⟨⟨⟨⟨⟨⟨⟨⟨⟨⟨⟨⟨⟨⟨⟨⟨⟨⟨⟨⟨ru_40,ru40⟩,ru41⟩,ru42⟩,ru43⟩,ru44⟩,ru45⟩,ru46⟩,ru47⟩,ru48⟩,ru49⟩,ru50⟩,ru51⟩,ru52⟩,ru53⟩,ru54⟩,ru55⟩,ru56⟩,ru57⟩,ru58⟩,ru59⟩
theorem ru_80:AllK (RuleOk PG SS EE TT) 80:=⟨⟨⟨⟨⟨⟨⟨⟨⟨⟨⟨⟨⟨⟨⟨⟨⟨⟨⟨⟨ru_60,ru60⟩,ru61⟩,ru62⟩,ru63⟩,ru64⟩,ru65⟩,ru66⟩,ru67⟩,ru68⟩,ru69⟩,ru70⟩,ru71⟩,ru72⟩,ru73⟩,ru74⟩,ru75⟩,ru76⟩,ru77⟩,ru78⟩,ru79⟩
theorem ru_100:AllK (RuleOk PG SS EE TT) 100:=⟨⟨⟨⟨⟨⟨⟨⟨⟨⟨⟨⟨⟨⟨⟨⟨⟨⟨⟨⟨ru_80,ru80⟩,ru81⟩,ru82⟩,ru83⟩,ru84⟩,ru85⟩,ru86⟩,ru87⟩,ru88⟩,ru89⟩,ru90⟩,ru91⟩,ru92⟩,ru93⟩,ru94⟩,ru95⟩,ru96⟩,ru97⟩,ru98⟩,ru99⟩
theorem ru_120:AllK (RuleOk PG SS EE TT) 120:=⟨⟨⟨⟨⟨⟨⟨⟨⟨⟨⟨⟨⟨⟨⟨⟨⟨⟨⟨⟨ru_100,ru100⟩,ru101⟩,ru102⟩,ru103⟩,ru104⟩,ru105⟩,ru106⟩,ru107⟩,ru108⟩,ru109⟩,ru110⟩,ru111⟩,ru112⟩,ru113⟩,ru114⟩,ru115⟩,ru116⟩,ru117⟩,ru118⟩,ru119⟩
theorem ru_140:AllK (RuleOk PG SS EE TT) 140:=⟨⟨⟨⟨⟨⟨⟨⟨⟨⟨⟨⟨⟨⟨⟨⟨⟨⟨⟨⟨ru_120,ru120⟩,ru121⟩,ru122⟩,ru123⟩,ru124⟩,ru125⟩,ru126⟩,ru127⟩,ru128⟩,ru129⟩,ru130⟩,ru131⟩,ru132⟩,ru133⟩,ru134⟩,ru135⟩,ru136⟩,ru137⟩,ru138⟩,ru139⟩
theorem ru_160:AllK (RuleOk PG SS EE TT) 160:=⟨⟨⟨⟨⟨⟨⟨⟨⟨⟨⟨⟨⟨⟨⟨⟨⟨⟨⟨⟨ru_140,ru140⟩,ru141⟩,ru142⟩,ru143⟩,ru144⟩,ru145⟩,ru146⟩,ru147⟩,ru148⟩,ru149⟩,ru150⟩,ru151⟩,ru152⟩,ru153⟩,ru154⟩,ru155⟩,ru156⟩,ru157⟩,ru158⟩,ru159⟩
theorem ru_169:AllK (RuleOk PG SS EE TT) 169:=⟨⟨⟨⟨⟨⟨⟨⟨⟨ru_160,ru160⟩,ru161⟩,ru162⟩,ru163⟩,ru164⟩,ru165⟩,ru166⟩,ru167⟩,ru168⟩
theorem noMore:∀k,169≤k→(EE k).base=none∧TT k=etNo:=fun k hk=>⟨by unfold EE;rw[nth_out dEn enL k (Nat.le_trans (by decide) hk)];rfl,by unfold TT;rw[nth_out etNo etL k (Nat.le_trans (by decide) hk)]⟩
theorem ev_sound{q:Q}{r:Rs}(h:ev q=some r)(hp:Pre EE q):SemQ PG SS EE q r∧Pst SS (EE q.k).fam r:=Evl.sound tabs ru_169.get noMore h hp
end Go.Proofs.YtfphhabaeggenaaDoor
