/- Joined. -/
import Derived.Test.YtjpjcjnacnlhdaaGreatBc
import Derived.Test.YtjpjcjnacnlhdaaGreatProg
import Derived.KernelRfl
namespace Go.Proofs.YtjpjcjnacnlhdaaGreat
def keepT:Nat→List Nat
 |7=>[0,5,20,22,6,31,40,63,2,3,4]
 |9=>[0,1,3,4,21,2,27,5,33,41,6,47,57,7,69,8,98]
 |11=>[0,1,2,3,32,5,37,51,6,56,70,7,75,89,4]
 |12=>[0,1,10,9,11,8,4,17,16,18,15,6,24,2]
 |14=>[0,1,11,13,15,5,2,20,30,4]
 |15=>[0,2,5,13,14,1,20,21,3,8,31,7,36,40,39,41,38,10,11,49,6]
 |16=>[0,2,5,12,1,17,20,3,7,26,31,8,36,9,48,6]
 |17=>[0,1,2,14,13,15,12,8,3,10,26,7,9,4,5,6]
 |18=>[0,6,2,12,7,23,1,37,4,5]
 |20=>[0,5,2,10,1,20,4]
 |21=>[0,1,2,14,13,15,12,8,3,10,26,7,9,4,5,6]
 |22=>[0,6,2,12,7,23,1,37,4,5]
 |24=>[0,7,3,12,1,2,33,6]
 |25=>[0,1,10,5,14,25,4]
 |31=>[0,3,18,4,5,36,6,45,7,62,2]
 |32=>[0,3,17,4,32,34,5,2]
 |33=>[0,3,18,5,26,4,6,7,55,2]
 |39=>[4,0,26,25,27,5,39,38,40,37,7,1,49,48,50,47,9,8,12,14]
 |40=>[0,3,1,18,4,43,2,5,49,60,7,68,9,8,80,92,10,100,6,11,111,123,12,131,13,144]
 |41=>[0,4,1,20,3,30,2,5,51,7,6,63,73,86,8,94,111,10,123,12,11,135,9,13,146,14,170,172,15,183]
 |42=>[0,2,1,5,6,22,4,7,30,43,51,8,66,11,10,88,9,97]
 |43=>[0,1,2,3,6,5,23,7,36,9,8,46,10,54,90,4]
 |44=>[5,0,9,1,17,4]
 |45=>[4,0,8,3,2]
 |46=>[0,1,2,3,35,5,40,71,4]
 |47=>[0,1,2,3,34,5,39,70,4]
 |48=>[0,1,2,3,27,5,32,63,4]
 |49=>[0,1,10,5,14,41,4]
 |50=>[0,1,36,40,39,41,38,4,59,63,62,64,61,6,70,76,75,77,74,8,96,100,99,101,98,10,107,113,112,114,111,12,132,137,136,138,135,14,144,2]
 |63=>[1,0,6,16,5,24,23,25,22,2,8,31,3]
 |64=>[0,3,1,7,14,2,9,8,25,34,6]
 |65=>[0,13,5,17,7,24,10,33,6,8,9,2,3,4]
 |70=>[0,9,3,2]
 |72=>[0,9,2,3,18,4,30,41]
 |73=>[0,12,2,22,4,6,5,3,43,7,48]
 |75=>[0,24,23,25,22,3,2,5,7,64,63,65,62,10,71,70,72,69,11,12,90,89,91,88,8,14,115,114,116,113,16,17]
 |76=>[0,2,28,27,29,26,3,4,6,49,48,50,47,8,56,55,57,54,10,12,9,88,87,89,86,14,110,109,111,108,17,117,116,118,115,15,19,20]
 |77=>[0,1,4,6,7,9,74,73,75,72,11,13,10,15,5,16,136,135,137,134,18,19]
 |78=>[1,0,3,4,35,34,36,33,7,9,8,10,67,66,68,65,12,13]
 |82=>[0,1,5,3,11,4,29,2]
 |83=>[1,5,0,9,3,20,4,36,49]
 |84=>[0,1,3,2,24,34,6,5,40,71,4]
 |85=>[0,1,5,3,12,2,6,24,37,7,40,64,4]
 |86=>[0,4,1,9,3,2]
 |87=>[0,1,9,5,14,3,2,4,47,8]
 |88=>[0,1,10,5,14,26,4]
 |90=>[0,1,2,3,59,5,64,78,6,83,115,4]
 |92=>[0,8,7,9,1,5,16,4]
 |93=>[0,8,7,9,1,5,16,4]
 |94=>[0,8,7,9,1,5,16,4]
 |95=>[0,8,7,9,1,5,16,4]
 |96=>[0,8,7,9,1,5,16,4]
 |97=>[0,8,7,9,1,5,16,4]
 |98=>[3,0,8,4,13,2]
 |99=>[1,0,20,24,34,4]
 |100=>[0,1,7,23,11,32,8,4,9,10,40,13,12,54,15,66,14,85,90,16,99,109,113,116,120,124,5,6]
 |102=>[0,12,3,2,18,23,4,33,52,5,6,7,73,8]
 |103=>[3,0,8,16,4,28,40,2]
 |104=>[2,3,19,0,8,10,29,1,9,12,11,56,15,75,13,14,84,16]
 |108=>[2,1,14,13,15,12,5,7,9,6,11]
 |109=>[1,0,3,5,4,50,49,51,48,6,7,9]
 |118=>[0,8,7,9,1,5,16,4]
 |120=>[0,1,4,11,3,2]
 |121=>[0,4,1,10,3,2]
 |122=>[0,1,2,3,33,5,38,52,4]
 |123=>[0,2,6,5,1,23,7,46,8,71,4]
 |124=>[0,1,5,16,22,30,38,6,50,9,53,10,67,7,8,87,4]
 |126=>[1,8,0,15,9,22,7,28,30,36,42,44,46,4,5,6]
 |128=>[1,0,2,40,6]
 |129=>[0,4,17,5,37,6,42,54,8,59,7,71,77,2,3]
 |136=>[0,3,14,4,22,30,38,48,2,58,5,76,6,99,106,7,119,8]
 |137=>[4,3,17,5,26,0,37,2]
 |143=>[0,8,7,9,1,5,16,4]
 |144=>[0,8,7,9,1,5,16,4]
 |147=>[5,0,9,1,16,4]
 |150=>[5,1,9,0,17,4]
 |151=>[0,9,2,3,23,4]
 |_=>[]
def sd5:Nat→List (Nat×Bool)
 |8=>[]
 |24=>[(0,true),(1,true),(2,true),(3,true),(4,true),(5,true),(6,true),(7,true),(8,true),(9,true),(10,true),(11,true),(12,true),(14,true),(15,true),(13,false),(16,false),(17,false),(18,true),(19,true)]
 |_=>[]
def sd7:Nat→List (Nat×Bool)
 |5=>[(0,true),(1,true),(2,true),(3,false),(4,false),(5,false),(6,true),(7,false)]
 |7=>[(0,true),(1,true),(2,true),(3,false),(4,false),(5,false),(6,true),(7,false)]
 |9=>[(0,true),(1,true),(2,true),(3,false),(4,false),(5,false),(6,true),(7,false)]
 |11=>[(0,true),(1,true),(2,true),(3,false),(4,false),(5,false),(6,true),(7,false)]
 |14=>[(0,true),(1,true),(2,true),(3,true),(4,true),(5,true),(6,true),(7,true),(8,true),(9,false),(10,true),(11,true)]
 |_=>[]
def sd8:Nat→List (Nat×Bool)
 |1=>[]
 |4=>[(0,true),(1,true),(2,false),(3,false)]
 |_=>[]
def sd9:Nat→List (Nat×Bool)
 |17=>[(0,true),(1,true),(2,true),(3,true),(4,true),(5,true),(6,false),(7,true)]
 |22=>[(0,true),(1,true),(2,true),(3,true),(4,true),(5,true),(6,true),(7,false),(8,true),(9,true),(10,true),(11,true),(12,true)]
 |23=>[(0,true),(1,true),(2,true),(3,true),(4,true),(5,true),(6,true),(8,true),(9,true),(10,true),(11,true),(12,true),(13,true),(7,false),(14,false),(15,true)]
 |_=>[]
def sd11:Nat→List (Nat×Bool)
 |6=>[(0,true),(1,true),(2,true),(3,true),(4,true),(5,true),(6,true),(7,true),(8,true),(9,true),(10,false),(11,true)]
 |11=>[(0,true),(1,true),(2,true),(3,true),(4,true),(5,true),(6,true),(7,true),(8,true),(9,true),(10,false),(11,true)]
 |16=>[(0,true),(1,true),(2,true),(3,true),(4,true),(5,true),(6,true),(7,true),(8,true),(9,true),(10,false),(11,true)]
 |_=>[]
def sd16:Nat→List (Nat×Bool)
 |14=>[(0,true),(1,true),(2,true),(3,true),(4,true),(5,true),(6,true),(7,false),(8,true)]
 |_=>[]
def sd25:Nat→List (Nat×Bool)
 |6=>[(0,true),(1,true),(2,true),(3,true),(4,true),(5,true),(6,true),(7,true),(8,true)]
 |_=>[]
def sd29:Nat→List (Nat×Bool)
 |1=>[(0,true),(1,true),(2,true),(3,true),(4,true),(5,true),(6,true),(7,true),(8,true),(9,true),(10,true),(11,true),(12,true),(13,true),(14,true),(15,true),(16,true)]
 |3=>[(0,true),(1,true),(2,true),(3,true),(4,true),(5,true),(6,true),(7,true),(8,true),(9,true),(10,false)]
 |_=>[]
def sd31:Nat→List (Nat×Bool)
 |4=>[(0,true),(1,true),(2,true),(3,false),(4,true),(5,false),(6,false),(7,true),(8,false)]
 |11=>[(0,true),(1,true),(2,true),(3,false),(4,false),(5,false),(6,true),(7,false)]
 |_=>[]
def sd32:Nat→List (Nat×Bool)
 |2=>[]
 |8=>[(0,true),(1,true),(2,true),(3,false),(4,false),(5,false),(6,true),(7,false)]
 |11=>[(0,true),(1,true),(2,true),(3,true),(4,true),(6,true),(7,true),(5,false),(8,true),(9,false),(10,false),(11,true),(12,false)]
 |_=>[]
def sd33:Nat→List (Nat×Bool)
 |2=>[]
 |13=>[(0,true),(1,true),(2,true),(3,false),(4,false),(5,false),(6,true),(7,false)]
 |_=>[]
def sd35:Nat→List (Nat×Bool)
 |3=>[(0,true),(1,true),(2,true),(4,true),(5,true),(3,false),(6,true),(7,false)]
 |_=>[]
def sd39:Nat→List (Nat×Bool)
 |17=>[(0,true),(1,true),(2,true),(3,true),(4,true),(5,true),(6,false),(7,true),(8,true),(9,true),(10,true),(11,true),(12,true),(13,true)]
 |_=>[]
def sd40:Nat→List (Nat×Bool)
 |10=>[(0,true),(1,true),(2,true),(3,true),(4,true),(5,true),(6,true),(7,true),(8,true)]
 |20=>[(0,true),(1,true),(2,true),(3,true),(4,true),(5,true),(6,true),(7,true),(8,true),(9,false)]
 |34=>[(0,true),(1,true),(2,true),(3,true),(4,true),(5,true),(6,true),(7,true),(8,false),(9,true)]
 |_=>[]
def sd41:Nat→List (Nat×Bool)
 |17=>[(0,true),(1,true),(2,true),(3,true),(4,true),(5,true),(6,true),(7,true),(8,true),(9,false)]
 |22=>[(0,true),(1,true),(2,true),(3,true),(4,true),(5,true),(6,true),(8,true),(9,true),(10,true),(11,true),(12,true),(13,true),(7,false),(14,false)]
 |_=>[]
def sd42:Nat→List (Nat×Bool)
 |13=>[]
 |16=>[(0,true),(1,true),(3,true),(4,true),(5,true),(6,true),(7,true),(8,true),(2,false),(9,false),(10,false),(11,true)]
 |_=>[]
def sd43:Nat→List (Nat×Bool)
 |1=>[(0,true),(1,true),(2,true),(3,true),(4,true),(5,false),(6,true),(7,true),(8,true),(9,true)]
 |5=>[(0,true),(1,true),(2,true),(3,true),(4,true),(5,true),(6,true),(7,true),(8,false),(9,true)]
 |15=>[(0,true),(1,true),(2,true),(3,true),(4,true),(5,true),(6,true),(7,true),(8,true),(9,true),(10,true),(11,true),(12,true),(13,true),(14,true),(15,true),(16,true),(17,true),(18,true),(19,true),(20,true),(21,true),(22,true),(23,true),(24,true),(25,true),(26,true),(27,true),(28,true),(29,true),(30,true),(31,false),(32,true),(33,true)]
 |_=>[]
def sd46:Nat→List (Nat×Bool)
 |6=>[(0,true),(1,true),(2,true),(3,true),(4,true),(5,true),(6,true),(7,true),(8,true),(9,true),(10,true),(11,true),(12,true),(13,true),(14,true),(15,true),(16,true),(17,true),(18,true),(19,true),(20,true),(21,true),(22,true),(23,true),(24,true),(25,true),(26,false),(27,true),(28,true)]
 |_=>[]
def sd47:Nat→List (Nat×Bool)
 |6=>[(0,true),(1,true),(2,true),(3,true),(4,true),(5,true),(6,true),(7,true),(8,true),(9,true),(10,true),(11,true),(12,true),(13,true),(14,true),(15,true),(16,true),(17,true),(18,true),(19,true),(20,true),(21,true),(22,true),(23,true),(24,true),(25,true),(26,false),(27,true),(28,true)]
 |_=>[]
def sd48:Nat→List (Nat×Bool)
 |6=>[(0,true),(1,true),(2,true),(3,true),(4,true),(5,true),(6,true),(7,true),(8,true),(9,true),(10,true),(11,true),(12,true),(13,true),(14,true),(15,true),(16,true),(17,true),(18,true),(19,true),(20,true),(21,true),(22,true),(23,true),(24,true),(25,true),(26,false),(27,true),(28,true)]
 |_=>[]
def sd49:Nat→List (Nat×Bool)
 |6=>[(0,true),(1,true),(2,true),(3,true),(4,true),(5,true),(6,true),(7,true),(8,true),(9,true),(10,true),(11,true),(12,true),(13,true),(14,true),(15,true),(16,true),(17,true),(18,true),(19,true),(20,true),(21,true),(22,false),(23,true),(24,true)]
 |_=>[]
def sd64:Nat→List (Nat×Bool)
 |9=>[(0,true),(1,true),(2,true),(3,true),(4,true),(5,true),(6,true),(7,true),(8,true),(9,true),(10,false),(11,false),(12,false),(13,true)]
 |_=>[]
def sd72:Nat→List (Nat×Bool)
 |10=>[(0,true),(1,true),(2,true),(3,false),(4,false),(5,false),(6,true),(7,false)]
 |13=>[(0,true),(1,true),(2,false),(3,false),(4,true),(5,false)]
 |_=>[]
def sd75:Nat→List (Nat×Bool)
 |14=>[(0,true),(1,true),(2,true),(3,true),(4,true),(7,true),(8,true),(5,false),(6,true),(9,false)]
 |25=>[(0,true),(1,true),(2,true),(3,true),(4,true),(5,true),(6,true),(7,false),(8,true)]
 |_=>[]
def sd76:Nat→List (Nat×Bool)
 |15=>[(0,true),(1,true),(2,true),(3,true),(4,true),(7,true),(8,true),(5,false),(6,true),(9,false)]
 |21=>[(0,true),(1,true),(2,true),(3,true),(4,true),(5,true),(7,true),(8,true),(11,true),(12,true),(6,false),(9,false),(10,true),(13,false)]
 |32=>[(0,true),(1,true),(2,true),(3,true),(4,true),(5,true),(7,true),(8,true),(6,false),(9,false),(10,true)]
 |34=>[(0,true),(1,true),(3,true),(4,true),(2,false),(5,false)]
 |_=>[]
def sd77:Nat→List (Nat×Bool)
 |1=>[(0,true),(1,true),(2,true),(3,true),(4,true),(5,true),(6,false),(7,true),(8,true),(9,true),(10,true),(11,true)]
 |5=>[(0,true),(1,true),(2,true),(3,true),(4,true),(5,true),(6,true),(7,true),(8,true),(9,true),(10,true)]
 |7=>[(0,true),(1,true),(2,true),(3,true),(4,true),(5,true),(6,false)]
 |11=>[(0,true),(1,true),(2,true),(3,true),(4,true),(5,true),(6,false),(7,true),(8,true),(9,true),(10,true),(11,true)]
 |24=>[(0,true),(1,true),(2,true),(10,true),(11,true),(3,false),(4,true),(5,true),(6,true),(7,true),(8,false),(9,true),(12,false)]
 |_=>[]
def sd78:Nat→List (Nat×Bool)
 |1=>[(0,true),(1,true),(2,true),(3,true),(4,true),(5,true),(6,false),(7,true),(8,true),(9,true),(10,true),(11,true)]
 |5=>[(0,true),(1,true),(2,true),(3,true),(4,true),(5,true),(6,true),(7,true),(8,true),(9,true),(10,true),(11,true),(12,true),(13,true),(14,true)]
 |12=>[(0,true),(1,true),(2,true),(3,true),(4,true),(5,true),(6,true),(7,true),(8,true),(9,true),(10,true),(12,true),(13,true),(11,false),(14,false)]
 |_=>[]
def sd83:Nat→List (Nat×Bool)
 |4=>[(0,true),(2,true),(3,true),(4,true),(5,true),(6,true),(1,false),(7,false),(8,true)]
 |6=>[(0,true),(1,true),(2,true),(4,true),(5,true),(6,true),(7,true),(8,true),(3,false),(9,false)]
 |_=>[]
def sd84:Nat→List (Nat×Bool)
 |3=>[(0,true),(1,true),(2,true),(3,true),(5,true),(6,true),(7,true),(8,true),(4,false),(9,true)]
 |9=>[(0,true),(1,true),(2,true),(3,true),(4,true),(5,true),(6,true),(7,true),(8,true),(9,true),(10,true),(11,true),(12,true),(13,true),(14,true),(15,true),(16,true),(17,true),(18,true),(19,true),(20,true),(21,true),(22,true),(23,true),(24,true),(25,true),(26,true),(27,false),(28,true)]
 |_=>[]
def sd85:Nat→List (Nat×Bool)
 |7=>[(0,true),(1,true),(2,true),(3,true),(4,true),(5,true),(7,true),(8,true),(9,true),(6,false),(10,false),(11,true),(12,true)]
 |12=>[(0,true),(1,true),(2,true),(3,true),(4,true),(5,true),(6,true),(7,true),(8,true),(9,true),(10,true),(11,true),(12,true),(13,true),(14,true),(15,true),(16,true),(17,true),(18,true),(19,true),(20,true),(21,true)]
 |_=>[]
def sd87:Nat→List (Nat×Bool)
 |4=>[(0,true),(1,true),(2,true),(3,true),(4,true),(5,true),(6,true),(7,true),(8,true),(9,true),(10,true),(11,true),(12,true),(13,true),(14,true),(15,true),(16,true),(17,true),(18,true),(19,true),(20,true),(21,true),(22,true),(23,true),(24,true),(25,true),(27,true),(26,false),(28,false),(29,true),(30,true)]
 |_=>[]
def sd88:Nat→List (Nat×Bool)
 |6=>[(0,true),(1,true),(2,true),(3,true),(4,true),(5,true),(6,true),(7,true),(8,false),(9,true)]
 |_=>[]
def sd90:Nat→List (Nat×Bool)
 |6=>[(0,true),(1,true),(2,true),(3,true),(4,true),(5,true),(6,true),(7,true),(8,true),(9,true),(10,false),(11,true)]
 |11=>[(0,true),(1,true),(2,true),(3,true),(4,true),(5,true),(6,true),(7,true),(8,true),(9,true),(10,true),(11,true),(12,false),(13,true),(14,true),(15,true),(16,true),(17,true),(18,true),(19,true),(20,true),(21,true),(22,true),(23,true),(24,true),(25,true),(26,true),(27,false),(28,true),(29,true)]
 |_=>[]
def sd102:Nat→List (Nat×Bool)
 |8=>[(0,true),(1,true),(2,true),(3,false),(4,false),(5,false),(6,true),(7,false)]
 |10=>[(0,true),(1,true),(2,true),(3,false),(4,false),(5,false),(6,true),(7,false)]
 |12=>[(0,true),(1,true),(2,true),(3,false),(4,false),(5,false),(6,true),(7,false)]
 |23=>[(0,true),(1,true),(4,true),(5,true),(2,false),(3,false),(6,true),(7,false)]
 |_=>[]
def sd109:Nat→List (Nat×Bool)
 |1=>[(0,true),(1,true),(2,true),(3,true),(4,true),(5,true),(6,true),(7,false),(8,true),(9,true),(10,true),(11,true),(12,true)]
 |_=>[]
def sd122:Nat→List (Nat×Bool)
 |6=>[(0,true),(1,true),(2,true),(3,true),(4,true),(5,true),(6,true),(7,true),(8,true),(9,true),(10,false),(11,true)]
 |_=>[]
def sd123:Nat→List (Nat×Bool)
 |13=>[(0,true),(1,true),(2,true),(3,true),(4,true),(5,true),(6,true),(7,true),(8,true),(9,true),(12,true),(13,true),(14,true),(15,true),(16,true),(17,true),(18,true),(19,true),(10,false),(11,true),(20,true),(21,true),(22,true)]
 |_=>[]
def sd135:Nat→List (Nat×Bool)
 |4=>[(0,true),(1,true),(2,true),(3,true),(4,false),(5,true),(6,false),(7,false),(8,false),(9,true),(10,false)]
 |7=>[(0,true),(1,true),(2,true),(3,false),(4,false),(5,false),(6,true),(7,false)]
 |_=>[]
def sd136:Nat→List (Nat×Bool)
 |20=>[(0,true),(1,true),(2,true),(3,false),(4,false),(5,false),(6,true),(7,false)]
 |40=>[]
 |_=>[]
def sd146:Nat→List (Nat×Bool)
 |1=>[(0,true),(1,true),(2,true),(3,true),(4,true),(5,true),(6,true),(7,true),(8,true),(9,true),(10,true),(11,true),(12,true),(13,true),(14,true),(15,true),(16,true),(18,true),(17,false),(19,false),(20,true),(21,true),(22,true)]
 |_=>[]
def sd151:Nat→List (Nat×Bool)
 |7=>[(0,true),(1,true),(2,true),(3,false),(4,false),(5,false),(6,true),(7,false)]
 |_=>[]
def sdT:Nat→Nat→List (Nat×Bool)
 |5=>sd5
 |7=>sd7
 |8=>sd8
 |9=>sd9
 |11=>sd11
 |16=>sd16
 |25=>sd25
 |29=>sd29
 |31=>sd31
 |32=>sd32
 |33=>sd33
 |35=>sd35
 |39=>sd39
 |40=>sd40
 |41=>sd41
 |42=>sd42
 |43=>sd43
 |46=>sd46
 |47=>sd47
 |48=>sd48
 |49=>sd49
 |64=>sd64
 |72=>sd72
 |75=>sd75
 |76=>sd76
 |77=>sd77
 |78=>sd78
 |83=>sd83
 |84=>sd84
 |85=>sd85
 |87=>sd87
 |88=>sd88
 |90=>sd90
 |102=>sd102
 |109=>sd109
 |122=>sd122
 |123=>sd123
 |135=>sd135
 |136=>sd136
 |146=>sd146
 |151=>sd151
 |_=>fun _=>[]
def sx5:Nat→Option (Sch×List Nat)
 |8=>some (.look 0 (.look 1 (.look 2 (.look 3 (.look 4 (.look 5 (.look 6 (.look 7 (.look 8 (.look 9 (.look 10 (.look 11 (.look 12 (.look 14 (.look 16 (.look 17 (.look 19 (.eff (.cons 13 (.eff (.cons 15 (.eff (.cons 18 (.eff (.cons 20 (.look 21 (.look 22 (.done))) (.nil))) (.nil))) (.cons 18 (.eff (.cons 15 (.eff (.cons 20 (.look 21 (.look 22 (.done))) (.nil))) (.nil))) (.nil)))) (.cons 18 (.eff (.cons 13 (.eff (.cons 15 (.eff (.cons 20 (.look 21 (.look 22 (.done))) (.nil))) (.nil))) (.nil))) (.nil)))))))))))))))))))),[64,7,1,5])
 |_=>none
def sx8:Nat→Option (Sch×List Nat)
 |1=>some (.look 0 (.look 1 (.look 3 (.look 4 (.look 6 (.look 7 (.eff (.cons 2 (.eff (.cons 5 (.eff (.cons 8 (.look 9 (.eff (.cons 10 (.look 11 (.eff (.cons 12 (.look 13 (.done)) (.nil)))) (.nil)))) (.cons 10 (.eff (.cons 8 (.look 9 (.look 11 (.eff (.cons 12 (.look 13 (.done)) (.nil))))) (.nil))) (.nil)))) (.cons 10 (.eff (.cons 5 (.eff (.cons 8 (.look 9 (.look 11 (.eff (.cons 12 (.look 13 (.done)) (.nil))))) (.nil))) (.nil))) (.nil)))) (.cons 10 (.eff (.cons 2 (.eff (.cons 5 (.eff (.cons 8 (.look 9 (.look 11 (.eff (.cons 12 (.look 13 (.done)) (.nil))))) (.nil))) (.nil))) (.nil))) (.nil))))))))),[4,1,2,3])
 |_=>none
def sx32:Nat→Option (Sch×List Nat)
 |2=>some (.look 0 (.look 1 (.look 2 (.look 5 (.look 6 (.eff (.cons 3 (.look 4 (.look 7 (.eff (.cons 8 (.eff (.cons 9 (.done) (.nil))) (.nil))))) (.cons 8 (.eff (.cons 3 (.look 4 (.look 7 (.eff (.cons 9 (.done) (.nil))))) (.nil))) (.nil)))))))),[0,4,2])
 |_=>none
def sx33:Nat→Option (Sch×List Nat)
 |2=>some (.look 0 (.look 1 (.look 2 (.look 4 (.look 5 (.eff (.cons 3 (.look 6 (.eff (.cons 7 (.eff (.cons 8 (.done) (.nil))) (.nil)))) (.cons 7 (.eff (.cons 3 (.look 6 (.eff (.cons 8 (.done) (.nil)))) (.nil))) (.nil)))))))),[0,4,2])
 |_=>none
def sx42:Nat→Option (Sch×List Nat)
 |13=>some (.look 0 (.look 1 (.look 2 (.look 3 (.look 4 (.look 5 (.look 6 (.eff (.cons 7 (.eff (.cons 8 (.eff (.cons 9 (.done) (.nil))) (.nil))) (.cons 8 (.eff (.cons 7 (.eff (.cons 9 (.done) (.nil))) (.nil))) (.nil)))))))))),[8,4,5,2,6])
 |_=>none
def sx136:Nat→Option (Sch×List Nat)
 |40=>some (.look 0 (.look 2 (.look 4 (.look 5 (.eff (.cons 1 (.eff (.cons 3 (.look 6 (.eff (.cons 7 (.done) (.nil)))) (.nil))) (.cons 3 (.eff (.cons 1 (.look 6 (.eff (.cons 7 (.done) (.nil)))) (.nil))) (.nil))))))),[0,8,2])
 |_=>none
def sxT:Nat→Nat→Option (Sch×List Nat)
 |5=>sx5
 |8=>sx8
 |32=>sx32
 |33=>sx33
 |42=>sx42
 |136=>sx136
 |_=>fun _=>none
def rsT:Nat→List Nat
 |39=>[4]
 |_=>[]
def dfT(f:Nat):Bool:=([39]:List Nat).elem f
def tabT(f:Nat):FT:={keep:=keepT f,sd:=sdT f,sx:=sxT f,rs:=rsT f,df:=dfT f }
def okT(f:Nat):Bool:=([2,3,4,5,6,7,8,9,10,11,12,13,14,15,16,17,18,19,20,21,22,23,24,25,26,27,28,29,30,31,32,33,34,35,36,37,38,39,40,41,42,43,44,45,46,47,48,49,50,51,52,53,54,55,56,57,58,59,60,61,62,63,64,65,66,67,68,69,70,71,72,73,74,75,76,77,78,79,80,81,82,83,84,85,86,87,88,89,90,91,92,93,94,95,96,97,98,99,100,101,102,103,104,105,106,107,108,109,110,111,112,113,114,115,116,117,118,119,120,121,122,123,124,125,126,127,128,129,130,131,132,133,134,135,136,137,138,139,140,141,142,143,144,145,146,147,148,149,150,151,152,153,154,155,156]:List Nat).elem f
set_option maxRecDepth 100000 in
theorem funcs_size:Tryz.prog.funcs.size=173:=by kernel_rfl
set_option maxRecDepth 100000 in
theorem tab_all:(List.range 173).all (funcOk Tryz.prog tabT)=true:=by kernel_rfl
set_option maxRecDepth 100000 in
theorem ok_all:(List.range 173).all (fun f=>!okT f||callable Tryz.prog f)=true:=by kernel_rfl
theorem okT_last:∀f,173≤f→okT f=false:=by
 intro f hf
 unfold okT
 simp
 omega
theorem okT_ok:∀f,okT f=true→callable Tryz.prog f=true:=okf_of okT_last ok_all
theorem tabT_ok:tabsOk Tryz.prog tabT:=tabsOk_of funcs_size tab_all
def sp0:Nat→List AV→List AObj→Option (AV×List AObj):=fun _ _ _=>none
theorem sp0_ok(R:Nat→PV):CallsOk R Tryz.prog sp0:=fun _ _ _ _ _ h=>by cases h
end Go.Proofs.YtjpjcjnacnlhdaaGreat
