import Derived.Test.YtkamjbmjjhbjcaaGreatDoorBc
import Derived.Test.YtkamjbmjjhbjcaaGreatDoorProg
import Derived.KernelRfl
set_option linter.unusedVariables false
set_option linter.unusedSimpArgs false
set_option linter.unusedSectionVars false
namespace Go.Proofs.YtkamjbmjjhbjcaaGreatDoor
def keepT:Nat→List Nat
 |8=>[0,1,27,51,90,3,95,104,4,109,129,2]
 |12=>[0,3,1,8,17,20,32,35,46,2]
 |13=>[0,1,7,10,4,20,30,3,2]
 |14=>[0,3,1,8,17,20,23,2]
 |15=>[0,1,7,13,4,44,3,2]
 |16=>[0,1,9,11,12,14,18,28,27,29,26,5,37,6,3,2]
 |18=>[0,1,36,40,39,41,38,4,59,63,62,64,61,6,70,76,75,77,74,8,96,100,99,101,98,10,107,113,112,114,111,12,132,137,136,138,135,14,144,2]
 |19=>[0,3,1,10,19,4,24,33,5,38,47,2]
 |22=>[0,4,1,24,7,5,36,9,53,8,6,3,88,10,101,11,12,127,13,153,14,171,17,15,183,16,18,222,19,240,2]
 |24=>[0,2,6,5,1,23,7,46,8,71,4]
 |26=>[3,0,7,25,2]
 |33=>[0,9,8,10,7,1,6,16,4]
 |34=>[0,9,8,10,7,1,6,16,4]
 |36=>[0,9,8,10,7,1,6,16,4]
 |43=>[0,11,5,4,3,25,27,2]
 |44=>[0,1,9,20,3,37,36,38,35,4,6,2]
 |45=>[0,1,21,3,26,35,4,40,50,5,59,72,2]
 |46=>[0,3,1,8,28,2]
 |47=>[0,3,1,8,38,2]
 |48=>[0,9,8,10,7,1,6,16,4]
 |50=>[0,9,8,10,7,1,6,16,4]
 |52=>[0,9,8,10,7,1,6,16,4]
 |54=>[0,10,9,11,8,5,1,7,4]
 |55=>[0,1,18,17,19,16,3,4,5,36,35,37,34,7,50,2]
 |56=>[0,10,9,11,8,5,1,7,4]
 |57=>[0,1,18,3,30,29,31,28,5,50,49,51,48,7,2]
 |58=>[0,10,9,11,8,5,1,7,4]
 |59=>[0,1,19,18,20,17,3,4,5,45,44,46,43,7,2]
 |60=>[0,10,9,11,8,5,1,7,4]
 |62=>[8,0,12,16,7,1,2,6]
 |66=>[0,12,2,22,4,6,5,3,43,7,48]
 |68=>[3,0,8,4,13,2]
 |70=>[0,9,3,13,24,39,62,4,5,75,76,6,94,97,125,128,166,2]
 |74=>[0,9,8,10,7,1,6,16,4]
 |75=>[0,9,8,10,7,1,6,16,4]
 |79=>[1,4,14,0,30,38,7,45,49,78,6,106,115,8,2,135]
 |81=>[3,0,7,14,2]
 |85=>[0,5,3,2]
 |89=>[3,0,7,15,2]
 |91=>[0,9,8,10,7,1,6,16,4]
 |92=>[0,9,8,10,7,1,6,16,4]
 |94=>[0,9,8,10,7,1,6,16,4]
 |96=>[0,9,8,10,7,1,6,16,4]
 |97=>[0,12,13,15,1,22,29,5,41,40,42,39,7,49,8,65,64,66,63,10,4]
 |100=>[0,13,5,17,7,24,10,33,6,8,9,2,3,4]
 |103=>[0,12,3,2,18,23,4,33,52,5,6,7,73,8]
 |105=>[3,0,8,16,4,28,40,2]
 |106=>[2,3,19,0,8,10,29,1,9,12,11,56,15,75,13,14,84,16]
 |107=>[0,1,5,16,22,30,38,6,50,9,53,10,67,7,8,87,4]
 |110=>[0,8,7,9,1,5,16,4]
 |124=>[1,3,6,12,0,19,26,4,42,46,78]
 |126=>[5,1,9,0,17,4]
 |132=>[3,0,7,14,2]
 |134=>[3,0,8,4,13,2]
 |135=>[1,0,20,24,34,4]
 |136=>[0,1,7,23,11,32,8,4,9,10,40,13,12,54,15,66,14,85,90,16,99,109,113,116,120,124,5,6]
 |140=>[0,3,14,4,22,30,38,48,2,58,5,76,6,99,106,7,119,8]
 |142=>[4,3,17,5,26,0,37,2]
 |147=>[0,9,8,10,7,4,6,3,2]
 |151=>[1,3,9,10,4,17,24,0,41,40,42,39,6,47,5,7,75]
 |153=>[1,3,11,12,0,4,26,56,61,60,62,59,7,67,5,8,81,6,9]
 |159=>[4,0,8,13,21,3,25,29,2]
 |161=>[0,4,1,10,26,5,3,31,2]
 |162=>[0,4,1,10,49,5,3,54,2]
 |168=>[1,8,0,15,9,22,7,28,30,36,42,44,46,4,5,6]
 |169=>[1,0,2,40,6]
 |170=>[0,4,17,5,37,6,42,54,8,59,7,71,77,2,3]
 |173=>[0,9,2,3,23,4]
 |174=>[0,9,2,3,18,4,30,41]
 |177=>[0,9,8,10,4,5,17,3,2]
 |178=>[0,1,9,8,10,7,3,5,2]
 |179=>[0,1,10,9,11,8,3,5,6,4,2]
 |182=>[5,0,9,1,16,4]
 |_=>[]
def sd3:Nat→List (Nat×Bool)
 |7=>[(0,true),(1,false),(2,true),(3,true),(5,true),(4,false),(6,false),(7,true),(8,true),(9,true)]
 |_=>[]
def sd5:Nat→List (Nat×Bool)
 |7=>[(0,true),(1,false),(2,true),(3,true),(5,true),(4,false),(6,false),(7,true),(8,true),(9,true)]
 |_=>[]
def sd8:Nat→List (Nat×Bool)
 |1=>[(0,true),(1,true),(2,true),(3,true),(4,true),(5,true),(6,true),(7,true),(8,true),(9,true),(10,true),(11,true),(12,true),(13,true),(14,true),(15,true),(16,true),(17,true),(18,true),(19,true),(20,false),(21,true),(22,true)]
 |_=>[]
def sd9:Nat→List (Nat×Bool)
 |1=>[(0,true),(2,true),(3,true),(4,true),(1,false),(5,true),(6,true),(7,true),(8,false),(9,true),(10,true),(11,true),(12,true),(13,true),(14,true),(15,true),(16,true),(17,true),(18,true),(19,true),(20,true),(21,true),(22,true),(23,true),(24,true),(25,true),(26,true),(27,true),(28,true),(29,true),(30,true)]
 |_=>[]
def sd15:Nat→List (Nat×Bool)
 |3=>[(0,true),(1,true),(2,true),(3,true),(6,true),(7,true),(8,true),(9,true),(4,false),(5,true),(10,false),(11,true),(12,true)]
 |4=>[(0,true),(1,true),(2,true),(3,true),(6,true),(7,true),(8,true),(9,true),(4,false),(5,true),(10,false),(11,true),(12,true)]
 |_=>[]
def sd21:Nat→List (Nat×Bool)
 |3=>[(0,true),(1,true),(3,true),(4,true),(7,true),(8,true),(11,true),(12,true),(2,false),(5,false),(6,true),(9,false),(10,true),(13,false),(14,true),(15,true)]
 |_=>[]
def sd22:Nat→List (Nat×Bool)
 |16=>[(0,true),(1,true),(2,true),(3,true),(4,true),(5,true),(6,true),(9,true),(7,false),(8,true),(10,false),(11,true),(12,true)]
 |24=>[(0,true),(1,true),(2,true),(3,true),(4,true),(5,true),(6,true),(7,true),(8,true),(9,true),(10,true),(11,false),(12,true),(13,true),(14,true)]
 |28=>[(0,true),(1,true),(2,true),(3,true),(4,true),(5,true),(6,true),(10,true),(11,true),(12,true),(13,true),(14,true),(15,true),(7,false),(8,true),(9,true),(16,false),(17,true),(18,true),(19,true)]
 |42=>[(0,true),(1,true),(2,true),(3,true),(4,true),(5,true),(6,true),(7,true),(8,true),(9,true),(10,true),(11,true),(12,true),(13,true),(14,true),(15,true),(16,false),(17,false),(18,true)]
 |43=>[(0,true),(1,true),(2,true),(3,true),(4,true),(5,true),(6,true),(7,true),(10,true),(8,false),(9,true),(11,false),(12,true),(13,true),(14,true)]
 |_=>[]
def sd23:Nat→List (Nat×Bool)
 |5=>[(0,true),(1,true),(2,true),(3,true),(4,true),(5,true),(6,true),(7,true),(8,true),(9,false),(10,true),(11,true)]
 |_=>[]
def sd24:Nat→List (Nat×Bool)
 |13=>[(0,true),(1,true),(2,true),(3,true),(4,true),(5,true),(6,true),(7,true),(8,true),(9,true),(12,true),(13,true),(14,true),(15,true),(16,true),(17,true),(18,true),(19,true),(10,false),(11,true),(20,true),(21,true),(22,true)]
 |_=>[]
def sd38:Nat→List (Nat×Bool)
 |2=>[(0,true),(1,true),(2,true),(3,true),(4,true),(5,true),(6,true),(7,true),(8,true)]
 |_=>[]
def sd55:Nat→List (Nat×Bool)
 |5=>[(0,true),(2,true),(3,true),(6,true),(7,true),(1,false),(4,true),(5,true),(8,true),(9,true),(10,true)]
 |_=>[]
def sd57:Nat→List (Nat×Bool)
 |8=>[(0,true),(1,true),(2,true),(6,true),(7,true),(3,false),(4,true),(5,true),(8,false),(9,true),(10,true),(11,true),(12,true)]
 |_=>[]
def sd59:Nat→List (Nat×Bool)
 |1=>[(0,true),(1,true),(2,true),(3,true),(4,true),(5,true),(6,false),(7,true),(8,true)]
 |5=>[(0,true),(2,true),(3,true),(6,true),(7,true),(10,true),(11,true),(12,true),(1,false),(4,true),(5,true),(8,true),(9,true),(13,true),(14,true),(15,true)]
 |_=>[]
def sd61:Nat→List (Nat×Bool)
 |1=>[(0,true),(1,true),(5,true),(6,true),(2,false),(3,true),(4,true),(7,false),(8,true),(9,true),(10,true)]
 |_=>[]
def sd64:Nat→List (Nat×Bool)
 |1=>[(0,true),(1,true),(5,true),(6,true),(2,false),(3,true),(4,true),(7,false),(8,true),(9,true),(10,true)]
 |_=>[]
def sd70:Nat→List (Nat×Bool)
 |7=>[(0,true),(1,true),(2,true),(3,true),(4,true),(6,true),(7,true),(5,false),(8,false),(9,true),(10,true),(11,true),(12,true)]
 |9=>[(0,true),(1,true),(2,true),(3,true),(4,true),(6,true),(7,true),(10,true),(11,true),(13,true),(14,true),(5,false),(8,false),(9,true),(12,false),(15,false),(16,true),(17,true),(18,true),(19,true),(20,true)]
 |17=>[(0,true),(1,true),(2,true),(3,true),(4,true),(5,true),(6,true),(7,true),(8,true),(9,true),(10,true),(11,true),(12,true),(13,true),(14,true),(15,true),(16,true)]
 |21=>[(0,true),(1,true),(2,true),(3,true),(4,true),(5,true),(6,true),(7,true),(8,true),(9,true),(10,true),(11,true),(12,true),(13,true),(14,true),(15,true),(16,true),(17,true),(18,true),(19,true),(20,true),(21,true),(22,true),(23,true),(24,true),(25,true),(26,true)]
 |25=>[(0,true),(1,true),(2,true),(3,true),(4,true),(5,true),(6,true),(7,true),(8,true),(9,true),(10,true),(11,true),(12,true),(13,true),(14,true),(15,true),(16,true),(17,true),(18,true),(19,true),(20,true),(21,true),(22,true),(23,true),(24,true),(25,true),(26,true),(27,true),(28,true),(29,true),(30,true),(31,true),(32,true),(33,true),(34,true),(35,true),(36,true)]
 |_=>[]
def sd103:Nat→List (Nat×Bool)
 |8=>[(0,true),(1,true),(2,true),(3,false),(4,false),(5,false),(6,true),(7,false)]
 |10=>[(0,true),(1,true),(2,true),(3,false),(4,false),(5,false),(6,true),(7,false)]
 |12=>[(0,true),(1,true),(2,true),(3,false),(4,false),(5,false),(6,true),(7,false)]
 |23=>[(0,true),(1,true),(4,true),(5,true),(2,false),(3,false),(6,true),(7,false)]
 |_=>[]
def sd104:Nat→List (Nat×Bool)
 |1=>[(0,true),(1,true),(2,true),(3,true),(4,true),(5,true),(6,true),(7,true),(8,true),(9,true),(10,true),(11,true),(12,true),(13,true),(14,true),(15,true),(16,true)]
 |3=>[(0,true),(1,true),(2,true),(3,true),(4,true),(5,true),(6,true),(7,true),(8,true),(9,true),(10,false)]
 |_=>[]
def sd108:Nat→List (Nat×Bool)
 |1=>[(0,true),(1,true),(2,true),(3,true),(4,true),(5,true),(6,true),(7,true),(8,true),(9,true),(10,true),(11,true),(12,true),(13,true),(14,true),(15,true),(16,true),(17,true),(18,true)]
 |2=>[(0,true),(1,true),(2,true),(3,true),(4,true),(5,true),(6,true),(7,true),(8,true),(9,true),(10,true),(11,true),(12,true),(13,true),(14,true),(15,true),(16,true),(17,true),(18,true),(19,true),(20,true),(21,true),(22,true),(23,true),(24,true),(25,true),(26,true),(27,true),(28,true),(29,true),(30,true),(31,true),(32,true),(33,true),(34,true),(35,true),(36,true),(37,true),(38,true)]
 |_=>[]
def sd115:Nat→List (Nat×Bool)
 |1=>[]
 |_=>[]
def sd116:Nat→List (Nat×Bool)
 |3=>[]
 |_=>[]
def sd119:Nat→List (Nat×Bool)
 |3=>[(0,true),(1,true),(3,true),(4,true),(5,true),(6,true),(7,true),(2,false),(8,false),(9,false),(10,false),(11,false)]
 |4=>[(0,true),(1,true),(3,true),(4,true),(5,true),(6,true),(7,true),(2,false),(8,false),(9,false),(10,false),(11,false)]
 |_=>[]
def sd129:Nat→List (Nat×Bool)
 |3=>[(0,true),(1,true),(2,true),(3,true),(4,true),(5,true),(6,true),(7,true),(8,true),(9,true),(10,true),(11,true),(12,true)]
 |_=>[]
def sd131:Nat→List (Nat×Bool)
 |1=>[(0,true),(1,true),(2,true),(3,true),(5,true),(6,true),(7,true),(8,true),(9,true),(4,false),(10,false),(11,true)]
 |_=>[]
def sd138:Nat→List (Nat×Bool)
 |4=>[(0,true),(1,true),(2,true),(3,true),(4,false),(5,true),(6,false),(7,false),(8,false),(9,true),(10,false)]
 |7=>[(0,true),(1,true),(2,true),(3,false),(4,false),(5,false),(6,true),(7,false)]
 |_=>[]
def sd139:Nat→List (Nat×Bool)
 |3=>[(0,true),(1,true),(2,true),(4,true),(5,true),(3,false),(6,true),(7,false)]
 |_=>[]
def sd140:Nat→List (Nat×Bool)
 |20=>[(0,true),(1,true),(2,true),(3,false),(4,false),(5,false),(6,true),(7,false)]
 |40=>[]
 |_=>[]
def sd149:Nat→List (Nat×Bool)
 |2=>[(0,true),(1,true),(2,true),(3,true),(4,true),(5,true),(6,true),(7,true),(8,true),(9,false),(10,false),(11,true)]
 |4=>[(0,true),(1,true),(2,true),(3,true),(4,true),(5,true),(6,true),(7,true),(8,true),(9,false),(10,false),(11,true)]
 |6=>[(0,true),(1,true),(2,true),(3,false),(4,false),(5,true)]
 |9=>[(0,true),(1,true),(2,true),(3,false),(4,false),(5,true)]
 |10=>[(0,true),(1,true),(2,true),(3,true),(4,true),(5,true),(6,true),(7,true),(8,true),(9,true),(10,true),(11,true),(12,true),(13,false),(14,false),(15,true)]
 |_=>[]
def sd150:Nat→List (Nat×Bool)
 |7=>[(0,true),(1,true),(2,true),(3,true),(4,true),(5,false),(6,false)]
 |_=>[]
def sd151:Nat→List (Nat×Bool)
 |7=>[]
 |12=>[(0,true),(1,false),(2,false),(3,false),(4,false),(5,false)]
 |13=>[]
 |15=>[(0,true),(1,false),(2,false),(3,false),(4,false),(5,false)]
 |17=>[]
 |_=>[]
def sd153:Nat→List (Nat×Bool)
 |3=>[(0,true),(1,true),(4,true),(5,true),(6,true),(7,true),(8,true),(2,false),(3,false),(9,false),(10,false),(11,false),(12,false)]
 |5=>[]
 |15=>[]
 |20=>[(0,true),(3,true),(4,true),(5,true),(6,true),(7,true),(1,false),(2,false),(8,false),(9,false),(10,false),(11,false)]
 |_=>[]
def sd160:Nat→List (Nat×Bool)
 |0=>[(0,true),(1,true),(2,true),(3,true),(4,true),(5,true),(6,true),(7,true),(8,true),(9,true),(10,true)]
 |_=>[]
def sd165:Nat→List (Nat×Bool)
 |0=>[(0,true),(1,true),(2,true),(3,true),(4,true),(5,true),(6,true),(7,true),(9,true),(10,true),(11,true),(12,true),(13,true),(8,false),(14,true),(15,true)]
 |_=>[]
def sd173:Nat→List (Nat×Bool)
 |7=>[(0,true),(1,true),(2,true),(3,false),(4,false),(5,false),(6,true),(7,false)]
 |_=>[]
def sd174:Nat→List (Nat×Bool)
 |10=>[(0,true),(1,true),(2,true),(3,false),(4,false),(5,false),(6,true),(7,false)]
 |13=>[(0,true),(1,true),(2,false),(3,false),(4,true),(5,false)]
 |_=>[]
def sd178:Nat→List (Nat×Bool)
 |5=>[(0,true),(1,true),(3,true),(4,true),(5,true),(6,true),(2,false),(7,false),(8,true),(9,true)]
 |_=>[]
def sdT:Nat→Nat→List (Nat×Bool)
 |3=>sd3
 |5=>sd5
 |8=>sd8
 |9=>sd9
 |15=>sd15
 |21=>sd21
 |22=>sd22
 |23=>sd23
 |24=>sd24
 |38=>sd38
 |55=>sd55
 |57=>sd57
 |59=>sd59
 |61=>sd61
 |64=>sd64
 |70=>sd70
 |103=>sd103
 |104=>sd104
 |108=>sd108
 |115=>sd115
 |116=>sd116
 |119=>sd119
 |129=>sd129
 |131=>sd131
 |138=>sd138
 |139=>sd139
 |140=>sd140
 |149=>sd149
 |150=>sd150
 |151=>sd151
 |153=>sd153
 |160=>sd160
 |165=>sd165
 |173=>sd173
 |174=>sd174
 |178=>sd178
 |_=>fun _=>[]
def sx115:Nat→Option (Sch×List Nat)
 |1=>some (.look 2 (.eff (.cons 0 (.eff (.cons 1 (.eff (.cons 3 (.eff (.cons 4 (.eff (.cons 5 (.eff (.cons 6 (.eff (.cons 7 (.eff (.cons 8 (.done) (.nil))) (.nil))) (.nil))) (.nil))) (.nil))) (.cons 4 (.eff (.cons 3 (.eff (.cons 5 (.eff (.cons 6 (.eff (.cons 7 (.eff (.cons 8 (.done) (.nil))) (.nil))) (.nil))) (.nil))) (.nil))) (.nil)))) (.cons 4 (.eff (.cons 1 (.eff (.cons 3 (.eff (.cons 5 (.eff (.cons 6 (.eff (.cons 7 (.eff (.cons 8 (.done) (.nil))) (.nil))) (.nil))) (.nil))) (.nil))) (.nil))) (.nil)))) (.cons 4 (.eff (.cons 0 (.eff (.cons 1 (.eff (.cons 3 (.eff (.cons 5 (.eff (.cons 6 (.eff (.cons 7 (.eff (.cons 8 (.done) (.nil))) (.nil))) (.nil))) (.nil))) (.nil))) (.nil))) (.nil))) (.nil)))),[2])
 |_=>none
def sx116:Nat→Option (Sch×List Nat)
 |3=>some (.look 0 (.look 1 (.look 2 (.look 4 (.look 7 (.look 8 (.look 9 (.look 10 (.eff (.cons 3 (.eff (.cons 5 (.eff (.cons 6 (.eff (.cons 11 (.eff (.cons 12 (.eff (.cons 13 (.eff (.cons 14 (.done) (.nil))) (.nil))) (.nil))) (.nil))) (.nil))) (.nil))) (.cons 5 (.eff (.cons 3 (.eff (.cons 6 (.eff (.cons 11 (.eff (.cons 12 (.eff (.cons 13 (.eff (.cons 14 (.done) (.nil))) (.nil))) (.nil))) (.nil))) (.nil))) (.nil))) (.nil))))))))))),[6])
 |_=>none
def sx140:Nat→Option (Sch×List Nat)
 |40=>some (.look 0 (.look 2 (.look 4 (.look 5 (.eff (.cons 1 (.eff (.cons 3 (.look 6 (.eff (.cons 7 (.done) (.nil)))) (.nil))) (.cons 3 (.eff (.cons 1 (.look 6 (.eff (.cons 7 (.done) (.nil)))) (.nil))) (.nil))))))),[0,8,2])
 |_=>none
def sx151:Nat→Option (Sch×List Nat)
 |7=>some (.look 2 (.look 3 (.look 4 (.look 5 (.look 6 (.eff (.cons 0 (.eff (.cons 1 (.eff (.cons 7 (.eff (.cons 8 (.eff (.cons 9 (.eff (.cons 10 (.eff (.cons 11 (.eff (.cons 12 (.eff (.cons 13 (.done) (.nil))) (.nil))) (.cons 12 (.eff (.cons 11 (.eff (.cons 13 (.done) (.nil))) (.nil))) (.nil)))) (.cons 12 (.eff (.cons 10 (.eff (.cons 11 (.eff (.cons 13 (.done) (.nil))) (.nil))) (.nil))) (.nil)))) (.cons 12 (.eff (.cons 9 (.eff (.cons 10 (.eff (.cons 11 (.eff (.cons 13 (.done) (.nil))) (.nil))) (.nil))) (.nil))) (.nil)))) (.cons 12 (.eff (.cons 8 (.eff (.cons 9 (.eff (.cons 10 (.eff (.cons 11 (.eff (.cons 13 (.done) (.nil))) (.nil))) (.nil))) (.nil))) (.nil))) (.nil)))) (.cons 8 (.eff (.cons 7 (.eff (.cons 9 (.eff (.cons 10 (.eff (.cons 11 (.eff (.cons 12 (.eff (.cons 13 (.done) (.nil))) (.nil))) (.cons 12 (.eff (.cons 11 (.eff (.cons 13 (.done) (.nil))) (.nil))) (.nil)))) (.cons 12 (.eff (.cons 10 (.eff (.cons 11 (.eff (.cons 13 (.done) (.nil))) (.nil))) (.nil))) (.nil)))) (.cons 12 (.eff (.cons 9 (.eff (.cons 10 (.eff (.cons 11 (.eff (.cons 13 (.done) (.nil))) (.nil))) (.nil))) (.nil))) (.nil)))) (.cons 12 (.eff (.cons 7 (.eff (.cons 9 (.eff (.cons 10 (.eff (.cons 11 (.eff (.cons 13 (.done) (.nil))) (.nil))) (.nil))) (.nil))) (.nil))) (.nil)))) (.cons 12 (.eff (.cons 7 (.eff (.cons 8 (.eff (.cons 9 (.eff (.cons 10 (.eff (.cons 11 (.eff (.cons 13 (.done) (.nil))) (.nil))) (.nil))) (.nil))) (.nil))) (.cons 8 (.eff (.cons 7 (.eff (.cons 9 (.eff (.cons 10 (.eff (.cons 11 (.eff (.cons 13 (.done) (.nil))) (.nil))) (.nil))) (.nil))) (.nil))) (.nil)))) (.nil))))) (.cons 8 (.eff (.cons 1 (.eff (.cons 7 (.eff (.cons 9 (.eff (.cons 10 (.eff (.cons 11 (.eff (.cons 12 (.eff (.cons 13 (.done) (.nil))) (.nil))) (.cons 12 (.eff (.cons 11 (.eff (.cons 13 (.done) (.nil))) (.nil))) (.nil)))) (.cons 12 (.eff (.cons 10 (.eff (.cons 11 (.eff (.cons 13 (.done) (.nil))) (.nil))) (.nil))) (.nil)))) (.cons 12 (.eff (.cons 9 (.eff (.cons 10 (.eff (.cons 11 (.eff (.cons 13 (.done) (.nil))) (.nil))) (.nil))) (.nil))) (.nil)))) (.cons 12 (.eff (.cons 7 (.eff (.cons 9 (.eff (.cons 10 (.eff (.cons 11 (.eff (.cons 13 (.done) (.nil))) (.nil))) (.nil))) (.nil))) (.nil))) (.nil)))) (.cons 12 (.eff (.cons 1 (.eff (.cons 7 (.eff (.cons 9 (.eff (.cons 10 (.eff (.cons 11 (.eff (.cons 13 (.done) (.nil))) (.nil))) (.nil))) (.nil))) (.nil))) (.nil))) (.nil)))) (.cons 12 (.eff (.cons 1 (.eff (.cons 7 (.eff (.cons 8 (.eff (.cons 9 (.eff (.cons 10 (.eff (.cons 11 (.eff (.cons 13 (.done) (.nil))) (.nil))) (.nil))) (.nil))) (.nil))) (.cons 8 (.eff (.cons 7 (.eff (.cons 9 (.eff (.cons 10 (.eff (.cons 11 (.eff (.cons 13 (.done) (.nil))) (.nil))) (.nil))) (.nil))) (.nil))) (.nil)))) (.cons 8 (.eff (.cons 1 (.eff (.cons 7 (.eff (.cons 9 (.eff (.cons 10 (.eff (.cons 11 (.eff (.cons 13 (.done) (.nil))) (.nil))) (.nil))) (.nil))) (.nil))) (.nil))) (.nil)))) (.nil))))) (.cons 8 (.eff (.cons 0 (.eff (.cons 1 (.eff (.cons 7 (.eff (.cons 9 (.eff (.cons 10 (.eff (.cons 11 (.eff (.cons 12 (.eff (.cons 13 (.done) (.nil))) (.nil))) (.cons 12 (.eff (.cons 11 (.eff (.cons 13 (.done) (.nil))) (.nil))) (.nil)))) (.cons 12 (.eff (.cons 10 (.eff (.cons 11 (.eff (.cons 13 (.done) (.nil))) (.nil))) (.nil))) (.nil)))) (.cons 12 (.eff (.cons 9 (.eff (.cons 10 (.eff (.cons 11 (.eff (.cons 13 (.done) (.nil))) (.nil))) (.nil))) (.nil))) (.nil)))) (.cons 12 (.eff (.cons 7 (.eff (.cons 9 (.eff (.cons 10 (.eff (.cons 11 (.eff (.cons 13 (.done) (.nil))) (.nil))) (.nil))) (.nil))) (.nil))) (.nil)))) (.cons 12 (.eff (.cons 1 (.eff (.cons 7 (.eff (.cons 9 (.eff (.cons 10 (.eff (.cons 11 (.eff (.cons 13 (.done) (.nil))) (.nil))) (.nil))) (.nil))) (.nil))) (.nil))) (.nil)))) (.cons 12 (.eff (.cons 0 (.eff (.cons 1 (.eff (.cons 7 (.eff (.cons 9 (.eff (.cons 10 (.eff (.cons 11 (.eff (.cons 13 (.done) (.nil))) (.nil))) (.nil))) (.nil))) (.nil))) (.nil))) (.nil))) (.nil)))) (.cons 12 (.eff (.cons 0 (.eff (.cons 1 (.eff (.cons 7 (.eff (.cons 8 (.eff (.cons 9 (.eff (.cons 10 (.eff (.cons 11 (.eff (.cons 13 (.done) (.nil))) (.nil))) (.nil))) (.nil))) (.nil))) (.cons 8 (.eff (.cons 7 (.eff (.cons 9 (.eff (.cons 10 (.eff (.cons 11 (.eff (.cons 13 (.done) (.nil))) (.nil))) (.nil))) (.nil))) (.nil))) (.nil)))) (.cons 8 (.eff (.cons 1 (.eff (.cons 7 (.eff (.cons 9 (.eff (.cons 10 (.eff (.cons 11 (.eff (.cons 13 (.done) (.nil))) (.nil))) (.nil))) (.nil))) (.nil))) (.nil))) (.nil)))) (.cons 8 (.eff (.cons 0 (.eff (.cons 1 (.eff (.cons 7 (.eff (.cons 9 (.eff (.cons 10 (.eff (.cons 11 (.eff (.cons 13 (.done) (.nil))) (.nil))) (.nil))) (.nil))) (.nil))) (.nil))) (.nil))) (.nil)))) (.nil))))))))),[3,5,0,4])
 |13=>some (.look 0 (.look 1 (.look 2 (.look 4 (.look 5 (.look 10 (.look 11 (.look 12 (.eff (.cons 3 (.eff (.cons 6 (.look 7 (.eff (.cons 8 (.eff (.cons 9 (.eff (.cons 13 (.eff (.cons 14 (.eff (.cons 15 (.eff (.cons 16 (.done) (.nil))) (.nil))) (.nil))) (.nil))) (.nil))) (.nil)))) (.cons 8 (.eff (.cons 6 (.look 7 (.eff (.cons 9 (.eff (.cons 13 (.eff (.cons 14 (.eff (.cons 15 (.eff (.cons 16 (.done) (.nil))) (.nil))) (.nil))) (.nil))) (.nil)))) (.nil))) (.nil)))) (.cons 8 (.eff (.cons 3 (.eff (.cons 6 (.look 7 (.eff (.cons 9 (.eff (.cons 13 (.eff (.cons 14 (.eff (.cons 15 (.eff (.cons 16 (.done) (.nil))) (.nil))) (.nil))) (.nil))) (.nil)))) (.nil))) (.nil))) (.nil))))))))))),[41,40,39,5,0,4])
 |17=>some (.look 2 (.look 3 (.look 4 (.look 5 (.look 6 (.look 10 (.look 11 (.look 13 (.look 14 (.eff (.cons 0 (.eff (.cons 1 (.eff (.cons 7 (.eff (.cons 8 (.eff (.cons 9 (.eff (.cons 12 (.eff (.cons 15 (.look 16 (.eff (.cons 17 (.eff (.cons 18 (.eff (.cons 19 (.eff (.cons 20 (.eff (.cons 21 (.done) (.nil))) (.nil))) (.nil))) (.nil))) (.nil)))) (.cons 17 (.eff (.cons 15 (.look 16 (.eff (.cons 18 (.eff (.cons 19 (.eff (.cons 20 (.eff (.cons 21 (.done) (.nil))) (.nil))) (.nil))) (.nil)))) (.nil))) (.nil)))) (.cons 17 (.eff (.cons 12 (.eff (.cons 15 (.look 16 (.eff (.cons 18 (.eff (.cons 19 (.eff (.cons 20 (.eff (.cons 21 (.done) (.nil))) (.nil))) (.nil))) (.nil)))) (.nil))) (.nil))) (.nil)))) (.cons 17 (.eff (.cons 9 (.eff (.cons 12 (.eff (.cons 15 (.look 16 (.eff (.cons 18 (.eff (.cons 19 (.eff (.cons 20 (.eff (.cons 21 (.done) (.nil))) (.nil))) (.nil))) (.nil)))) (.nil))) (.nil))) (.nil))) (.nil)))) (.cons 17 (.eff (.cons 8 (.eff (.cons 9 (.eff (.cons 12 (.eff (.cons 15 (.look 16 (.eff (.cons 18 (.eff (.cons 19 (.eff (.cons 20 (.eff (.cons 21 (.done) (.nil))) (.nil))) (.nil))) (.nil)))) (.nil))) (.nil))) (.nil))) (.nil))) (.nil)))) (.cons 8 (.eff (.cons 7 (.eff (.cons 9 (.eff (.cons 12 (.eff (.cons 15 (.look 16 (.eff (.cons 17 (.eff (.cons 18 (.eff (.cons 19 (.eff (.cons 20 (.eff (.cons 21 (.done) (.nil))) (.nil))) (.nil))) (.nil))) (.nil)))) (.cons 17 (.eff (.cons 15 (.look 16 (.eff (.cons 18 (.eff (.cons 19 (.eff (.cons 20 (.eff (.cons 21 (.done) (.nil))) (.nil))) (.nil))) (.nil)))) (.nil))) (.nil)))) (.cons 17 (.eff (.cons 12 (.eff (.cons 15 (.look 16 (.eff (.cons 18 (.eff (.cons 19 (.eff (.cons 20 (.eff (.cons 21 (.done) (.nil))) (.nil))) (.nil))) (.nil)))) (.nil))) (.nil))) (.nil)))) (.cons 17 (.eff (.cons 9 (.eff (.cons 12 (.eff (.cons 15 (.look 16 (.eff (.cons 18 (.eff (.cons 19 (.eff (.cons 20 (.eff (.cons 21 (.done) (.nil))) (.nil))) (.nil))) (.nil)))) (.nil))) (.nil))) (.nil))) (.nil)))) (.cons 17 (.eff (.cons 7 (.eff (.cons 9 (.eff (.cons 12 (.eff (.cons 15 (.look 16 (.eff (.cons 18 (.eff (.cons 19 (.eff (.cons 20 (.eff (.cons 21 (.done) (.nil))) (.nil))) (.nil))) (.nil)))) (.nil))) (.nil))) (.nil))) (.nil))) (.nil)))) (.cons 17 (.eff (.cons 7 (.eff (.cons 8 (.eff (.cons 9 (.eff (.cons 12 (.eff (.cons 15 (.look 16 (.eff (.cons 18 (.eff (.cons 19 (.eff (.cons 20 (.eff (.cons 21 (.done) (.nil))) (.nil))) (.nil))) (.nil)))) (.nil))) (.nil))) (.nil))) (.nil))) (.cons 8 (.eff (.cons 7 (.eff (.cons 9 (.eff (.cons 12 (.eff (.cons 15 (.look 16 (.eff (.cons 18 (.eff (.cons 19 (.eff (.cons 20 (.eff (.cons 21 (.done) (.nil))) (.nil))) (.nil))) (.nil)))) (.nil))) (.nil))) (.nil))) (.nil))) (.nil)))) (.nil))))) (.cons 8 (.eff (.cons 1 (.eff (.cons 7 (.eff (.cons 9 (.eff (.cons 12 (.eff (.cons 15 (.look 16 (.eff (.cons 17 (.eff (.cons 18 (.eff (.cons 19 (.eff (.cons 20 (.eff (.cons 21 (.done) (.nil))) (.nil))) (.nil))) (.nil))) (.nil)))) (.cons 17 (.eff (.cons 15 (.look 16 (.eff (.cons 18 (.eff (.cons 19 (.eff (.cons 20 (.eff (.cons 21 (.done) (.nil))) (.nil))) (.nil))) (.nil)))) (.nil))) (.nil)))) (.cons 17 (.eff (.cons 12 (.eff (.cons 15 (.look 16 (.eff (.cons 18 (.eff (.cons 19 (.eff (.cons 20 (.eff (.cons 21 (.done) (.nil))) (.nil))) (.nil))) (.nil)))) (.nil))) (.nil))) (.nil)))) (.cons 17 (.eff (.cons 9 (.eff (.cons 12 (.eff (.cons 15 (.look 16 (.eff (.cons 18 (.eff (.cons 19 (.eff (.cons 20 (.eff (.cons 21 (.done) (.nil))) (.nil))) (.nil))) (.nil)))) (.nil))) (.nil))) (.nil))) (.nil)))) (.cons 17 (.eff (.cons 7 (.eff (.cons 9 (.eff (.cons 12 (.eff (.cons 15 (.look 16 (.eff (.cons 18 (.eff (.cons 19 (.eff (.cons 20 (.eff (.cons 21 (.done) (.nil))) (.nil))) (.nil))) (.nil)))) (.nil))) (.nil))) (.nil))) (.nil))) (.nil)))) (.cons 17 (.eff (.cons 1 (.eff (.cons 7 (.eff (.cons 9 (.eff (.cons 12 (.eff (.cons 15 (.look 16 (.eff (.cons 18 (.eff (.cons 19 (.eff (.cons 20 (.eff (.cons 21 (.done) (.nil))) (.nil))) (.nil))) (.nil)))) (.nil))) (.nil))) (.nil))) (.nil))) (.nil))) (.nil)))) (.cons 17 (.eff (.cons 1 (.eff (.cons 7 (.eff (.cons 8 (.eff (.cons 9 (.eff (.cons 12 (.eff (.cons 15 (.look 16 (.eff (.cons 18 (.eff (.cons 19 (.eff (.cons 20 (.eff (.cons 21 (.done) (.nil))) (.nil))) (.nil))) (.nil)))) (.nil))) (.nil))) (.nil))) (.nil))) (.cons 8 (.eff (.cons 7 (.eff (.cons 9 (.eff (.cons 12 (.eff (.cons 15 (.look 16 (.eff (.cons 18 (.eff (.cons 19 (.eff (.cons 20 (.eff (.cons 21 (.done) (.nil))) (.nil))) (.nil))) (.nil)))) (.nil))) (.nil))) (.nil))) (.nil))) (.nil)))) (.cons 8 (.eff (.cons 1 (.eff (.cons 7 (.eff (.cons 9 (.eff (.cons 12 (.eff (.cons 15 (.look 16 (.eff (.cons 18 (.eff (.cons 19 (.eff (.cons 20 (.eff (.cons 21 (.done) (.nil))) (.nil))) (.nil))) (.nil)))) (.nil))) (.nil))) (.nil))) (.nil))) (.nil))) (.nil)))) (.nil))))) (.cons 8 (.eff (.cons 0 (.eff (.cons 1 (.eff (.cons 7 (.eff (.cons 9 (.eff (.cons 12 (.eff (.cons 15 (.look 16 (.eff (.cons 17 (.eff (.cons 18 (.eff (.cons 19 (.eff (.cons 20 (.eff (.cons 21 (.done) (.nil))) (.nil))) (.nil))) (.nil))) (.nil)))) (.cons 17 (.eff (.cons 15 (.look 16 (.eff (.cons 18 (.eff (.cons 19 (.eff (.cons 20 (.eff (.cons 21 (.done) (.nil))) (.nil))) (.nil))) (.nil)))) (.nil))) (.nil)))) (.cons 17 (.eff (.cons 12 (.eff (.cons 15 (.look 16 (.eff (.cons 18 (.eff (.cons 19 (.eff (.cons 20 (.eff (.cons 21 (.done) (.nil))) (.nil))) (.nil))) (.nil)))) (.nil))) (.nil))) (.nil)))) (.cons 17 (.eff (.cons 9 (.eff (.cons 12 (.eff (.cons 15 (.look 16 (.eff (.cons 18 (.eff (.cons 19 (.eff (.cons 20 (.eff (.cons 21 (.done) (.nil))) (.nil))) (.nil))) (.nil)))) (.nil))) (.nil))) (.nil))) (.nil)))) (.cons 17 (.eff (.cons 7 (.eff (.cons 9 (.eff (.cons 12 (.eff (.cons 15 (.look 16 (.eff (.cons 18 (.eff (.cons 19 (.eff (.cons 20 (.eff (.cons 21 (.done) (.nil))) (.nil))) (.nil))) (.nil)))) (.nil))) (.nil))) (.nil))) (.nil))) (.nil)))) (.cons 17 (.eff (.cons 1 (.eff (.cons 7 (.eff (.cons 9 (.eff (.cons 12 (.eff (.cons 15 (.look 16 (.eff (.cons 18 (.eff (.cons 19 (.eff (.cons 20 (.eff (.cons 21 (.done) (.nil))) (.nil))) (.nil))) (.nil)))) (.nil))) (.nil))) (.nil))) (.nil))) (.nil))) (.nil)))) (.cons 17 (.eff (.cons 0 (.eff (.cons 1 (.eff (.cons 7 (.eff (.cons 9 (.eff (.cons 12 (.eff (.cons 15 (.look 16 (.eff (.cons 18 (.eff (.cons 19 (.eff (.cons 20 (.eff (.cons 21 (.done) (.nil))) (.nil))) (.nil))) (.nil)))) (.nil))) (.nil))) (.nil))) (.nil))) (.nil))) (.nil))) (.nil)))) (.cons 17 (.eff (.cons 0 (.eff (.cons 1 (.eff (.cons 7 (.eff (.cons 8 (.eff (.cons 9 (.eff (.cons 12 (.eff (.cons 15 (.look 16 (.eff (.cons 18 (.eff (.cons 19 (.eff (.cons 20 (.eff (.cons 21 (.done) (.nil))) (.nil))) (.nil))) (.nil)))) (.nil))) (.nil))) (.nil))) (.nil))) (.cons 8 (.eff (.cons 7 (.eff (.cons 9 (.eff (.cons 12 (.eff (.cons 15 (.look 16 (.eff (.cons 18 (.eff (.cons 19 (.eff (.cons 20 (.eff (.cons 21 (.done) (.nil))) (.nil))) (.nil))) (.nil)))) (.nil))) (.nil))) (.nil))) (.nil))) (.nil)))) (.cons 8 (.eff (.cons 1 (.eff (.cons 7 (.eff (.cons 9 (.eff (.cons 12 (.eff (.cons 15 (.look 16 (.eff (.cons 18 (.eff (.cons 19 (.eff (.cons 20 (.eff (.cons 21 (.done) (.nil))) (.nil))) (.nil))) (.nil)))) (.nil))) (.nil))) (.nil))) (.nil))) (.nil))) (.nil)))) (.cons 8 (.eff (.cons 0 (.eff (.cons 1 (.eff (.cons 7 (.eff (.cons 9 (.eff (.cons 12 (.eff (.cons 15 (.look 16 (.eff (.cons 18 (.eff (.cons 19 (.eff (.cons 20 (.eff (.cons 21 (.done) (.nil))) (.nil))) (.nil))) (.nil)))) (.nil))) (.nil))) (.nil))) (.nil))) (.nil))) (.nil))) (.nil)))) (.nil))))))))))))),[4])
 |_=>none
def sx153:Nat→Option (Sch×List Nat)
 |5=>some (.look 2 (.look 3 (.look 4 (.look 5 (.look 6 (.look 10 (.look 11 (.look 12 (.look 13 (.look 14 (.look 18 (.look 19 (.look 20 (.look 21 (.look 22 (.eff (.cons 0 (.eff (.cons 1 (.eff (.cons 7 (.eff (.cons 8 (.eff (.cons 9 (.eff (.cons 15 (.eff (.cons 16 (.eff (.cons 17 (.eff (.cons 23 (.eff (.cons 24 (.eff (.cons 25 (.eff (.cons 26 (.done) (.nil))) (.nil))) (.nil))) (.nil))) (.nil))) (.nil))) (.cons 16 (.eff (.cons 15 (.eff (.cons 17 (.eff (.cons 23 (.eff (.cons 24 (.eff (.cons 25 (.eff (.cons 26 (.done) (.nil))) (.nil))) (.nil))) (.nil))) (.nil))) (.nil))) (.nil)))) (.cons 16 (.eff (.cons 9 (.eff (.cons 15 (.eff (.cons 17 (.eff (.cons 23 (.eff (.cons 24 (.eff (.cons 25 (.eff (.cons 26 (.done) (.nil))) (.nil))) (.nil))) (.nil))) (.nil))) (.nil))) (.nil))) (.nil)))) (.cons 16 (.eff (.cons 8 (.eff (.cons 9 (.eff (.cons 15 (.eff (.cons 17 (.eff (.cons 23 (.eff (.cons 24 (.eff (.cons 25 (.eff (.cons 26 (.done) (.nil))) (.nil))) (.nil))) (.nil))) (.nil))) (.nil))) (.nil))) (.nil))) (.nil)))) (.cons 8 (.eff (.cons 7 (.eff (.cons 9 (.eff (.cons 15 (.eff (.cons 16 (.eff (.cons 17 (.eff (.cons 23 (.eff (.cons 24 (.eff (.cons 25 (.eff (.cons 26 (.done) (.nil))) (.nil))) (.nil))) (.nil))) (.nil))) (.nil))) (.cons 16 (.eff (.cons 15 (.eff (.cons 17 (.eff (.cons 23 (.eff (.cons 24 (.eff (.cons 25 (.eff (.cons 26 (.done) (.nil))) (.nil))) (.nil))) (.nil))) (.nil))) (.nil))) (.nil)))) (.cons 16 (.eff (.cons 9 (.eff (.cons 15 (.eff (.cons 17 (.eff (.cons 23 (.eff (.cons 24 (.eff (.cons 25 (.eff (.cons 26 (.done) (.nil))) (.nil))) (.nil))) (.nil))) (.nil))) (.nil))) (.nil))) (.nil)))) (.cons 16 (.eff (.cons 7 (.eff (.cons 9 (.eff (.cons 15 (.eff (.cons 17 (.eff (.cons 23 (.eff (.cons 24 (.eff (.cons 25 (.eff (.cons 26 (.done) (.nil))) (.nil))) (.nil))) (.nil))) (.nil))) (.nil))) (.nil))) (.nil))) (.nil)))) (.cons 16 (.eff (.cons 7 (.eff (.cons 8 (.eff (.cons 9 (.eff (.cons 15 (.eff (.cons 17 (.eff (.cons 23 (.eff (.cons 24 (.eff (.cons 25 (.eff (.cons 26 (.done) (.nil))) (.nil))) (.nil))) (.nil))) (.nil))) (.nil))) (.nil))) (.nil))) (.cons 8 (.eff (.cons 7 (.eff (.cons 9 (.eff (.cons 15 (.eff (.cons 17 (.eff (.cons 23 (.eff (.cons 24 (.eff (.cons 25 (.eff (.cons 26 (.done) (.nil))) (.nil))) (.nil))) (.nil))) (.nil))) (.nil))) (.nil))) (.nil))) (.nil)))) (.nil))))) (.cons 8 (.eff (.cons 1 (.eff (.cons 7 (.eff (.cons 9 (.eff (.cons 15 (.eff (.cons 16 (.eff (.cons 17 (.eff (.cons 23 (.eff (.cons 24 (.eff (.cons 25 (.eff (.cons 26 (.done) (.nil))) (.nil))) (.nil))) (.nil))) (.nil))) (.nil))) (.cons 16 (.eff (.cons 15 (.eff (.cons 17 (.eff (.cons 23 (.eff (.cons 24 (.eff (.cons 25 (.eff (.cons 26 (.done) (.nil))) (.nil))) (.nil))) (.nil))) (.nil))) (.nil))) (.nil)))) (.cons 16 (.eff (.cons 9 (.eff (.cons 15 (.eff (.cons 17 (.eff (.cons 23 (.eff (.cons 24 (.eff (.cons 25 (.eff (.cons 26 (.done) (.nil))) (.nil))) (.nil))) (.nil))) (.nil))) (.nil))) (.nil))) (.nil)))) (.cons 16 (.eff (.cons 7 (.eff (.cons 9 (.eff (.cons 15 (.eff (.cons 17 (.eff (.cons 23 (.eff (.cons 24 (.eff (.cons 25 (.eff (.cons 26 (.done) (.nil))) (.nil))) (.nil))) (.nil))) (.nil))) (.nil))) (.nil))) (.nil))) (.nil)))) (.cons 16 (.eff (.cons 1 (.eff (.cons 7 (.eff (.cons 9 (.eff (.cons 15 (.eff (.cons 17 (.eff (.cons 23 (.eff (.cons 24 (.eff (.cons 25 (.eff (.cons 26 (.done) (.nil))) (.nil))) (.nil))) (.nil))) (.nil))) (.nil))) (.nil))) (.nil))) (.nil))) (.nil)))) (.cons 16 (.eff (.cons 1 (.eff (.cons 7 (.eff (.cons 8 (.eff (.cons 9 (.eff (.cons 15 (.eff (.cons 17 (.eff (.cons 23 (.eff (.cons 24 (.eff (.cons 25 (.eff (.cons 26 (.done) (.nil))) (.nil))) (.nil))) (.nil))) (.nil))) (.nil))) (.nil))) (.nil))) (.cons 8 (.eff (.cons 7 (.eff (.cons 9 (.eff (.cons 15 (.eff (.cons 17 (.eff (.cons 23 (.eff (.cons 24 (.eff (.cons 25 (.eff (.cons 26 (.done) (.nil))) (.nil))) (.nil))) (.nil))) (.nil))) (.nil))) (.nil))) (.nil))) (.nil)))) (.cons 8 (.eff (.cons 1 (.eff (.cons 7 (.eff (.cons 9 (.eff (.cons 15 (.eff (.cons 17 (.eff (.cons 23 (.eff (.cons 24 (.eff (.cons 25 (.eff (.cons 26 (.done) (.nil))) (.nil))) (.nil))) (.nil))) (.nil))) (.nil))) (.nil))) (.nil))) (.nil))) (.nil)))) (.nil))))) (.cons 8 (.eff (.cons 0 (.eff (.cons 1 (.eff (.cons 7 (.eff (.cons 9 (.eff (.cons 15 (.eff (.cons 16 (.eff (.cons 17 (.eff (.cons 23 (.eff (.cons 24 (.eff (.cons 25 (.eff (.cons 26 (.done) (.nil))) (.nil))) (.nil))) (.nil))) (.nil))) (.nil))) (.cons 16 (.eff (.cons 15 (.eff (.cons 17 (.eff (.cons 23 (.eff (.cons 24 (.eff (.cons 25 (.eff (.cons 26 (.done) (.nil))) (.nil))) (.nil))) (.nil))) (.nil))) (.nil))) (.nil)))) (.cons 16 (.eff (.cons 9 (.eff (.cons 15 (.eff (.cons 17 (.eff (.cons 23 (.eff (.cons 24 (.eff (.cons 25 (.eff (.cons 26 (.done) (.nil))) (.nil))) (.nil))) (.nil))) (.nil))) (.nil))) (.nil))) (.nil)))) (.cons 16 (.eff (.cons 7 (.eff (.cons 9 (.eff (.cons 15 (.eff (.cons 17 (.eff (.cons 23 (.eff (.cons 24 (.eff (.cons 25 (.eff (.cons 26 (.done) (.nil))) (.nil))) (.nil))) (.nil))) (.nil))) (.nil))) (.nil))) (.nil))) (.nil)))) (.cons 16 (.eff (.cons 1 (.eff (.cons 7 (.eff (.cons 9 (.eff (.cons 15 (.eff (.cons 17 (.eff (.cons 23 (.eff (.cons 24 (.eff (.cons 25 (.eff (.cons 26 (.done) (.nil))) (.nil))) (.nil))) (.nil))) (.nil))) (.nil))) (.nil))) (.nil))) (.nil))) (.nil)))) (.cons 16 (.eff (.cons 0 (.eff (.cons 1 (.eff (.cons 7 (.eff (.cons 9 (.eff (.cons 15 (.eff (.cons 17 (.eff (.cons 23 (.eff (.cons 24 (.eff (.cons 25 (.eff (.cons 26 (.done) (.nil))) (.nil))) (.nil))) (.nil))) (.nil))) (.nil))) (.nil))) (.nil))) (.nil))) (.nil))) (.nil)))) (.cons 16 (.eff (.cons 0 (.eff (.cons 1 (.eff (.cons 7 (.eff (.cons 8 (.eff (.cons 9 (.eff (.cons 15 (.eff (.cons 17 (.eff (.cons 23 (.eff (.cons 24 (.eff (.cons 25 (.eff (.cons 26 (.done) (.nil))) (.nil))) (.nil))) (.nil))) (.nil))) (.nil))) (.nil))) (.nil))) (.cons 8 (.eff (.cons 7 (.eff (.cons 9 (.eff (.cons 15 (.eff (.cons 17 (.eff (.cons 23 (.eff (.cons 24 (.eff (.cons 25 (.eff (.cons 26 (.done) (.nil))) (.nil))) (.nil))) (.nil))) (.nil))) (.nil))) (.nil))) (.nil))) (.nil)))) (.cons 8 (.eff (.cons 1 (.eff (.cons 7 (.eff (.cons 9 (.eff (.cons 15 (.eff (.cons 17 (.eff (.cons 23 (.eff (.cons 24 (.eff (.cons 25 (.eff (.cons 26 (.done) (.nil))) (.nil))) (.nil))) (.nil))) (.nil))) (.nil))) (.nil))) (.nil))) (.nil))) (.nil)))) (.cons 8 (.eff (.cons 0 (.eff (.cons 1 (.eff (.cons 7 (.eff (.cons 9 (.eff (.cons 15 (.eff (.cons 17 (.eff (.cons 23 (.eff (.cons 24 (.eff (.cons 25 (.eff (.cons 26 (.done) (.nil))) (.nil))) (.nil))) (.nil))) (.nil))) (.nil))) (.nil))) (.nil))) (.nil))) (.nil))) (.nil)))) (.nil))))))))))))))))))),[4])
 |15=>some (.look 0 (.look 1 (.look 2 (.look 6 (.look 7 (.look 8 (.eff (.cons 3 (.eff (.cons 4 (.eff (.cons 5 (.eff (.cons 9 (.eff (.cons 10 (.eff (.cons 11 (.eff (.cons 12 (.eff (.cons 13 (.done) (.nil))) (.nil))) (.cons 12 (.eff (.cons 11 (.eff (.cons 13 (.done) (.nil))) (.nil))) (.nil)))) (.cons 12 (.eff (.cons 10 (.eff (.cons 11 (.eff (.cons 13 (.done) (.nil))) (.nil))) (.nil))) (.nil)))) (.cons 12 (.eff (.cons 9 (.eff (.cons 10 (.eff (.cons 11 (.eff (.cons 13 (.done) (.nil))) (.nil))) (.nil))) (.nil))) (.nil)))) (.cons 12 (.eff (.cons 5 (.eff (.cons 9 (.eff (.cons 10 (.eff (.cons 11 (.eff (.cons 13 (.done) (.nil))) (.nil))) (.nil))) (.nil))) (.nil))) (.nil)))) (.cons 12 (.eff (.cons 4 (.eff (.cons 5 (.eff (.cons 9 (.eff (.cons 10 (.eff (.cons 11 (.eff (.cons 13 (.done) (.nil))) (.nil))) (.nil))) (.nil))) (.nil))) (.nil))) (.nil)))) (.cons 12 (.eff (.cons 3 (.eff (.cons 4 (.eff (.cons 5 (.eff (.cons 9 (.eff (.cons 10 (.eff (.cons 11 (.eff (.cons 13 (.done) (.nil))) (.nil))) (.nil))) (.nil))) (.nil))) (.nil))) (.nil))) (.nil))))))))),[7,6,9,61,60,59,0,5,3,4])
 |_=>none
def sxT:Nat→Nat→Option (Sch×List Nat)
 |115=>sx115
 |116=>sx116
 |140=>sx140
 |151=>sx151
 |153=>sx153
 |_=>fun _=>none
def rsT:Nat→List Nat
 |_=>[]
def dfT(f:Nat):Bool:=([]:List Nat).elem f
def tabT(f:Nat):FT:={keep:=keepT f,sd:=sdT f,sx:=sxT f,rs:=rsT f,df:=dfT f }
def okT(f:Nat):Bool:=([2,3,4,5,6,7,8,9,10,11,12,13,14,15,16,17,18,19,20,21,22,23,24,25,26,27,28,29,30,31,32,33,34,35,36,37,38,39,40,41,42,43,44,45,46,47,48,49,50,51,52,53,54,55,56,57,58,59,60,61,62,63,64,65,66,67,68,69,70,71,72,73,74,75,76,77,78,79,80,81,82,83,84,85,86,87,88,89,90,91,92,93,94,95,96,97,98,99,100,101,102,103,104,105,106,107,108,109,110,111,112,113,114,115,116,117,118,119,120,121,122,123,124,125,126,127,128,129,130,131,132,133,134,135,136,137,138,139,140,141,142,143,144,145,146,147,148,149,150,151,152,153,154,155,156,157,158,159,160,161,162,163,164,165,166,167,168,169,170,171,172,173,174,175,176,177,178,179,182,183,184,185,186,187,188,189,213]:List Nat).elem f
set_option maxRecDepth 100000 in
theorem funcs_size:Tryz.prog.funcs.size=214:=by kernel_rfl
theorem all_more(p:Nat→Bool)(a b:Nat)(h:(List.range a).all p=true)(h2:(List.range b).all (fun i=>p (a+i))=true):(List.range (a+b)).all p=true:=by
 rw[List.range_add,List.all_append,h,List.all_map]
 exact h2
set_option maxRecDepth 100000 in
theorem tab_0:(List.range 32).all (fun i=>funcOk Tryz.prog tabT (0+i))=true:=by kernel_rfl
set_option maxRecDepth 100000 in
theorem tab_1:(List.range 32).all (fun i=>funcOk Tryz.prog tabT (32+i))=true:=by kernel_rfl
set_option maxRecDepth 100000 in
theorem tab_2:(List.range 32).all (fun i=>funcOk Tryz.prog tabT (64+i))=true:=by kernel_rfl
set_option maxRecDepth 100000 in
theorem tab_3:(List.range 32).all (fun i=>funcOk Tryz.prog tabT (96+i))=true:=by kernel_rfl
set_option maxRecDepth 100000 in
theorem tab_4:(List.range 32).all (fun i=>funcOk Tryz.prog tabT (128+i))=true:=by kernel_rfl
set_option maxRecDepth 100000 in
theorem tab_5:(List.range 32).all (fun i=>funcOk Tryz.prog tabT (160+i))=true:=by kernel_rfl
set_option maxRecDepth 100000 in
theorem tab_6:(List.range 22).all (fun i=>funcOk Tryz.prog tabT (192+i))=true:=by kernel_rfl
theorem tab_all:(List.range 214).all (funcOk Tryz.prog tabT)=true:=by
 have h0:(List.range 32).all (funcOk Tryz.prog tabT)=true:=by simpa using tab_0
 have h1:=all_more (funcOk Tryz.prog tabT) 32 32 h0 tab_1
 have h2:=all_more (funcOk Tryz.prog tabT) 64 32 h1 tab_2
 have h3:=all_more (funcOk Tryz.prog tabT) 96 32 h2 tab_3
 have h4:=all_more (funcOk Tryz.prog tabT) 128 32 h3 tab_4
 have h5:=all_more (funcOk Tryz.prog tabT) 160 32 h4 tab_5
 have h6:=all_more (funcOk Tryz.prog tabT) 192 22 h5 tab_6
 exact h6
set_option maxRecDepth 100000 in
theorem ok_all:(List.range 214).all (fun f=>!okT f||callable Tryz.prog f)=true:=by kernel_rfl
theorem elem_lt(n:Nat)(L:List Nat)(h:L.all (fun x=>Nat.blt x n)=true)(f:Nat)(hf:n≤f):L.elem f=false:=by
 cases he:L.elem f with
 |false=>rfl
 |true=>
  have hm:f∈L:=List.mem_of_elem_eq_true he
  have h1:=List.all_eq_true.1 h f hm
  have h2:f+1≤n:=Nat.le_of_ble_eq_true h1
  omega
set_option maxRecDepth 100000 in
theorem okT_last:∀f,214≤f→okT f=false:=fun f hf=>elem_lt 214 _ (by kernel_rfl) f hf
theorem okT_ok:∀f,okT f=true→callable Tryz.prog f=true:=okf_of okT_last ok_all
theorem tabT_ok:tabsOk Tryz.prog tabT:=tabsOk_of funcs_size tab_all
end Go.Proofs.YtkamjbmjjhbjcaaGreatDoor
