/- A part of the proof of the statement S8 (texts brought together and shortened by a program of this work). -/
import Derived.Test.YtgnjidopnplbbaaGreatDoorQ5
namespace Go.V
def luk {α:Type} (d:α):List (Nat×α)->Nat->α
 | [],_=>d
 | (k,v) :: r,n=>match Nat.beq k n with
  | true=>v
  | false=>luk d r n
def zHG (b:Bool):Ann:=match b with
 | true => .ref
 | false => .none
def ann5:zDM:=⟨fun id i=>zHG ((luk ([]:List Nat) [(15,[2,4])] id).contains i),luk [] []⟩
def ann6:zDM:=⟨fun id i=>zHG ((luk ([]:List Nat) [] id).contains i),luk [] [(17,[6,12,13])]⟩
def ann7:zDM:=⟨fun id i=>zHG ((luk ([]:List Nat) [(24,[7])] id).contains i),luk [] [(29,[23])]⟩
def ann9:zDM:=⟨fun id i=>zHG ((luk ([]:List Nat) [] id).contains i),luk [] [(19,[15])]⟩
def ann10:zDM:=⟨fun id i=>zHG ((luk ([]:List Nat) [(26,[2]),(27,[4]),(34,[9]),(36,[11])] id).contains i),luk [] [(33,[0,1,2]),(34,[9,11]),(36,[11,13]),(40,[29]),(42,[10])]⟩
def ann14:zDM:=⟨fun id i=>zHG ((luk ([]:List Nat) [] id).contains i),luk [] [(6,[8]),(19,[1,4,11,12,19])]⟩
def ann18:zDM:=⟨fun id i=>zHG ((luk ([]:List Nat) [(0,[0,1]),(3,[4]),(17,[2]),(18,[3]),(19,[0]),(20,[0])] id).contains i),luk [] [(3,[1,4,5])]⟩
def ann19:zDM:=⟨fun id i=>zHG ((luk ([]:List Nat) [(40,[6])] id).contains i),luk [] [(28,[15]),(33,[19])]⟩
def ann20:zDM:=⟨fun id i=>zHG ((luk ([]:List Nat) [] id).contains i),luk [] []⟩
def ann21:zDM:=⟨fun id i=>zHG ((luk ([]:List Nat) [(3,[2])] id).contains i),luk [] []⟩
def ann22:zDM:=⟨fun id i=>zHG ((luk ([]:List Nat) [] id).contains i),luk [] [(6,[6])]⟩
def ann23:zDM:=⟨fun id i=>zHG ((luk ([]:List Nat) [] id).contains i),luk [] [(6,[35])]⟩
def ann24:zDM:=⟨fun id i=>zHG ((luk ([]:List Nat) [] id).contains i),luk [] [(7,[4,5]),(9,[6])]⟩
def ann26:zDM:=⟨fun id i=>zHG ((luk ([]:List Nat) [] id).contains i),luk [] [(6,[10])]⟩
def ann28:zDM:=⟨fun id i=>zHG ((luk ([]:List Nat) [] id).contains i),luk [] [(6,[4,5])]⟩
def ann29:zDM:=⟨fun id i=>zHG ((luk ([]:List Nat) [(11,[3])] id).contains i),luk [] [(13,[4,5])]⟩
def ann30:zDM:=⟨fun id i=>zHG ((luk ([]:List Nat) [] id).contains i),luk [] []⟩
def ann31:zDM:=⟨fun id i=>zHG ((luk ([]:List Nat) [] id).contains i),luk [] []⟩
def ann33:zDM:=⟨fun id i=>zHG ((luk ([]:List Nat) [] id).contains i),luk [] [(6,[10])]⟩
def ann34:zDM:=⟨fun id i=>zHG ((luk ([]:List Nat) [(7,[5])] id).contains i),luk [] [(7,[3,5,7])]⟩
def ann36:zDM:=⟨fun id i=>zHG ((luk ([]:List Nat) [(10,[8]),(11,[3])] id).contains i),luk [] [(10,[5,6,8,9])]⟩
def ann37:zDM:=⟨fun id i=>zHG ((luk ([]:List Nat) [(26,[8]),(32,[5]),(34,[7])] id).contains i),luk [] []⟩
def ann38:zDM:=⟨fun id i=>zHG ((luk ([]:List Nat) [(15,[10]),(21,[5]),(24,[6])] id).contains i),luk [] []⟩
def ann40:zDM:=⟨fun id i=>zHG ((luk ([]:List Nat) [] id).contains i),luk [] []⟩
def ann41:zDM:=⟨fun id i=>zHG ((luk ([]:List Nat) [(3,[3])] id).contains i),luk [] []⟩
def ann42:zDM:=⟨fun id i=>zHG ((luk ([]:List Nat) [(15,[10])] id).contains i),luk [] [(15,[8,10,13])]⟩
def ann43:zDM:=⟨fun id i=>zHG ((luk ([]:List Nat) [] id).contains i),luk [] [(12,[4,5])]⟩
def ann46:zDM:=⟨fun id i=>zHG ((luk ([]:List Nat) [] id).contains i),luk [] [(3,[11])]⟩
def ann47:zDM:=⟨fun id i=>zHG ((luk ([]:List Nat) [] id).contains i),luk [] []⟩
def ann48:zDM:=⟨fun id i=>zHG ((luk ([]:List Nat) [(8,[3])] id).contains i),luk [] []⟩
def ann49:zDM:=⟨fun id i=>zHG ((luk ([]:List Nat) [(7,[4])] id).contains i),luk [] []⟩
def ann50:zDM:=⟨fun id i=>zHG ((luk ([]:List Nat) [(13,[5]),(14,[5])] id).contains i),luk [] []⟩
def ann51:zDM:=⟨fun id i=>zHG ((luk ([]:List Nat) [] id).contains i),luk [] [(15,[3])]⟩
def ann52:zDM:=⟨fun id i=>zHG ((luk ([]:List Nat) [] id).contains i),luk [] [(6,[22])]⟩
def ann53:zDM:=⟨fun id i=>zHG ((luk ([]:List Nat) [] id).contains i),luk [] [(1,[1,3,7,9,10,14,17,21])]⟩
def ann57:zDM:=⟨fun id i=>zHG ((luk ([]:List Nat) [(6,[0])] id).contains i),luk [] [(17,[2])]⟩
def ann58:zDM:=⟨fun id i=>zHG ((luk ([]:List Nat) [(17,[6])] id).contains i),luk [] [(10,[5,10,11])]⟩
def ann60:zDM:=⟨fun id i=>zHG ((luk ([]:List Nat) [(3,[2])] id).contains i),luk [] []⟩
def ann61:zDM:=⟨fun id i=>zHG ((luk ([]:List Nat) [(11,[3])] id).contains i),luk [] [(9,[20])]⟩
def ann65:zDM:=⟨fun id i=>zHG ((luk ([]:List Nat) [] id).contains i),luk [] [(4,[13])]⟩
def ann67:zDM:=⟨fun id i=>zHG ((luk ([]:List Nat) [(1,[7])] id).contains i),luk [] [(1,[7,9,12])]⟩
def ann68:zDM:=⟨fun id i=>zHG ((luk ([]:List Nat) [] id).contains i),luk [] [(5,[4,6])]⟩
def ann69:zDM:=⟨fun id i=>zHG ((luk ([]:List Nat) [(5,[8])] id).contains i),luk [] [(5,[5,8,10])]⟩
def ann70:zDM:=⟨fun id i=>zHG ((luk ([]:List Nat) [] id).contains i),luk [] [(6,[10])]⟩
def ann73:zDM:=⟨fun id i=>zHG ((luk ([]:List Nat) [(9,[23]),(13,[15]),(15,[10])] id).contains i),luk [] [(9,[6,8,12,13,18,19,21,23,25]),(13,[4,6,10,11,13,15,17]),(15,[5,6,8,10,12])]⟩
def ann75:zDM:=⟨fun id i=>zHG ((luk ([]:List Nat) [(8,[3]),(10,[3])] id).contains i),luk [] [(11,[2,4])]⟩
def ann76:zDM:=⟨fun id i=>zHG ((luk ([]:List Nat) [] id).contains i),luk [] [(4,[7])]⟩
def ann81:zDM:=⟨fun id i=>zHG ((luk ([]:List Nat) [] id).contains i),luk [] []⟩
def ann82:zDM:=⟨fun id i=>zHG ((luk ([]:List Nat) [] id).contains i),luk [] [(6,[8])]⟩
def ann83:zDM:=⟨fun id i=>zHG ((luk ([]:List Nat) [(1,[7,9])] id).contains i),luk [] []⟩
def ann86:zDM:=⟨fun id i=>zHG ((luk ([]:List Nat) [(3,[2])] id).contains i),luk [] []⟩
def ann87:zDM:=⟨fun id i=>zHG ((luk ([]:List Nat) [(11,[3]),(12,[3])] id).contains i),luk [] []⟩
def ann88:zDM:=⟨fun id i=>zHG ((luk ([]:List Nat) [] id).contains i),luk [] []⟩
def ann89:zDM:=⟨fun id i=>zHG ((luk ([]:List Nat) [(0,[7])] id).contains i),luk [] []⟩
def ann90:zDM:=⟨fun id i=>zHG ((luk ([]:List Nat) [] id).contains i),luk [] []⟩
def ann91:zDM:=⟨fun id i=>zHG ((luk ([]:List Nat) [(6,[21])] id).contains i),luk [] [(3,[10]),(6,[21,24,27])]⟩
def ann92:zDM:=⟨fun id i=>zHG ((luk ([]:List Nat) [(6,[21])] id).contains i),luk [] [(2,[10,11]),(3,[10]),(6,[21,24,27])]⟩
def ann94:zDM:=⟨fun id i=>zHG ((luk ([]:List Nat) [(5,[8]),(9,[8])] id).contains i),luk [] [(5,[8,10]),(9,[8,10])]⟩
def ann95:zDM:=⟨fun id i=>zHG ((luk ([]:List Nat) [(8,[4])] id).contains i),luk [] []⟩
def ann97:zDM:=⟨fun id i=>zHG ((luk ([]:List Nat) [(12,[11]),(13,[3]),(16,[4])] id).contains i),luk [] []⟩
def ann99:zDM:=⟨fun id i=>zHG ((luk ([]:List Nat) [(10,[4])] id).contains i),luk [] [(6,[12]),(12,[2,3])]⟩
def ann101:zDM:=⟨fun id i=>zHG ((luk ([]:List Nat) [(6,[3])] id).contains i),luk [] []⟩
def ann107:zDM:=⟨fun id i=>zHG ((luk ([]:List Nat) [(3,[2])] id).contains i),luk [] []⟩
def ann108:zDM:=⟨fun id i=>zHG ((luk ([]:List Nat) [(13,[8]),(15,[4]),(16,[4]),(20,[9]),(21,[6,10]),(32,[3]),(33,[4,9]),(37,[6,10,15])] id).contains i),luk [] [(20,[2,4,5,9,10]),(37,[6,10,11,15,16])]⟩
def ann113:zDM:=⟨fun id i=>zHG ((luk ([]:List Nat) [(6,[3]),(7,[4]),(8,[3])] id).contains i),luk [] []⟩
def ann116:zDM:=⟨fun id i=>zHG ((luk ([]:List Nat) [(6,[4]),(7,[3])] id).contains i),luk [] []⟩
def ann117:zDM:=⟨fun id i=>zHG ((luk ([]:List Nat) [(0,[0])] id).contains i),luk [] []⟩
def ann128:zDM:=⟨fun id i=>zHG ((luk ([]:List Nat) [(2,[4])] id).contains i),luk [] []⟩
def ann129:zDM:=⟨fun id i=>zHG ((luk ([]:List Nat) [(1,[0])] id).contains i),luk [] []⟩
def ann130:zDM:=⟨fun id i=>zHG ((luk ([]:List Nat) [] id).contains i),luk [] [(1,[22])]⟩
def ann135:zDM:=⟨fun id i=>zHG ((luk ([]:List Nat) [(0,[0])] id).contains i),luk [] []⟩
def ann142:zDM:=⟨fun id i=>zHG ((luk ([]:List Nat) [] id).contains i),luk [] [(10,[5])]⟩
def ann144:zDM:=⟨fun id i=>zHG ((luk ([]:List Nat) [] id).contains i),luk [] []⟩
def ann145:zDM:=⟨fun id i=>zHG ((luk ([]:List Nat) [] id).contains i),luk [] []⟩
def ann146:zDM:=⟨fun id i=>zHG ((luk ([]:List Nat) [] id).contains i),luk [] [(17,[12])]⟩
def ann148:zDM:=⟨fun id i=>zHG ((luk ([]:List Nat) [(1,[0]),(2,[1]),(10,[4])] id).contains i),luk [] []⟩
def ann159:zDM:=⟨fun id i=>zHG ((luk ([]:List Nat) [(2,[3]),(3,[3]),(4,[3])] id).contains i),luk [] []⟩
def ann160:zDM:=⟨fun id i=>zHG ((luk ([]:List Nat) [(6,[8])] id).contains i),luk [] []⟩
def ann161:zDM:=⟨fun id i=>zHG ((luk ([]:List Nat) [(4,[5]),(5,[6]),(6,[5])] id).contains i),luk [] [(4,[5,7]),(5,[6,8]),(6,[5,7])]⟩
def ann164:zDM:=⟨fun id i=>zHG ((luk ([]:List Nat) [(5,[4])] id).contains i),luk [] []⟩
def ann167:zDM:=⟨fun id i=>zHG ((luk ([]:List Nat) [(0,[0])] id).contains i),luk [] []⟩
def ann168:zDM:=⟨fun id i=>zHG ((luk ([]:List Nat) [] id).contains i),luk [] [(1,[0,2])]⟩
def ann170:zDM:=⟨fun id i=>zHG ((luk ([]:List Nat) [] id).contains i),luk [] [(10,[0,2])]⟩
def ann172:zDM:=⟨fun id i=>zHG ((luk ([]:List Nat) [] id).contains i),luk [] [(4,[13]),(6,[15,17])]⟩
def ann173:zDM:=⟨fun id i=>zHG ((luk ([]:List Nat) [] id).contains i),luk [] [(10,[17,19])]⟩
def ann174:zDM:=⟨fun id i=>zHG ((luk ([]:List Nat) [(2,[2])] id).contains i),luk [] [(10,[17,19])]⟩
def ann175:zDM:=⟨fun id i=>zHG ((luk ([]:List Nat) [(2,[0])] id).contains i),luk [] []⟩
def ann176:zDM:=⟨fun id i=>zHG ((luk ([]:List Nat) [] id).contains i),luk [] [(3,[13,15])]⟩
def ann177:zDM:=⟨fun id i=>zHG ((luk ([]:List Nat) [] id).contains i),luk [] [(5,[13]),(11,[15,17]),(16,[9]),(17,[15,17]),(22,[9]),(23,[15,17])]⟩
def ann179:zDM:=⟨fun id i=>zHG ((luk ([]:List Nat) [] id).contains i),luk [] [(1,[13,15]),(3,[12]),(5,[12]),(8,[13,15])]⟩
def ann180:zDM:=⟨fun id i=>zHG ((luk ([]:List Nat) [] id).contains i),luk [] [(1,[13,15]),(3,[12]),(5,[12]),(8,[13,15]),(10,[13,15]),(13,[12]),(15,[12]),(18,[13,15]),(21,[13,15])]⟩
def ann183:zDM:=⟨fun id i=>zHG ((luk ([]:List Nat) [(0,[0])] id).contains i),luk [] []⟩
def ann186:zDM:=⟨fun id i=>zHG ((luk ([]:List Nat) [(8,[10])] id).contains i),luk [] [(8,[8,10,12])]⟩
def ann194:zDM:=⟨fun id i=>zHG ((luk ([]:List Nat) [] id).contains i),luk [] [(6,[6]),(10,[5])]⟩
def ann196:zDM:=⟨fun id i=>zHG ((luk ([]:List Nat) [(8,[3])] id).contains i),luk [] []⟩
def ann198:zDM:=⟨fun id i=>zHG ((luk ([]:List Nat) [] id).contains i),luk [] []⟩
def ann199:zDM:=⟨fun id i=>zHG ((luk ([]:List Nat) [(2,[2])] id).contains i),luk [] []⟩
def ann201:zDM:=⟨fun id i=>zHG ((luk ([]:List Nat) [] id).contains i),luk [] [(3,[18]),(5,[12]),(6,[21,23])]⟩
def ann203:zDM:=⟨fun id i=>zHG ((luk ([]:List Nat) [] id).contains i),luk [] [(1,[9]),(2,[9]),(3,[9])]⟩
def ann213:zDM:=⟨fun id i=>zHG ((luk ([]:List Nat) [] id).contains i),luk [] [(1,[0]),(2,[8])]⟩
def ann214:zDM:=⟨fun id i=>zHG ((luk ([]:List Nat) [] id).contains i),luk [] [(1,[2,5,8])]⟩
def ann218:zDM:=⟨fun id i=>zHG ((luk ([]:List Nat) [] id).contains i),luk [] [(2,[0]),(13,[0])]⟩
def ann220:zDM:=⟨fun id i=>zHG ((luk ([]:List Nat) [] id).contains i),luk [] [(1,[14])]⟩
def ann221:zDM:=⟨fun id i=>zHG ((luk ([]:List Nat) [] id).contains i),luk [] [(1,[8])]⟩
def zHH:zDM:=⟨fun id i=>zHG ((luk ([]:List Nat) [] id).contains i),luk [] [(1,[0,2,4,6,8,10,12,14,16,18,20])]⟩
def ann226:zDM:=⟨fun id i=>zHG ((luk ([]:List Nat) [(7,[6])] id).contains i),luk [] []⟩
def ann233:zDM:=⟨fun id i=>zHG ((luk ([]:List Nat) [] id).contains i),luk [] [(5,[0]),(8,[0,15,22])]⟩
def ann235:zDM:=⟨fun id i=>zHG ((luk ([]:List Nat) [(13,[2])] id).contains i),luk [] []⟩
def ann240:zDM:=⟨fun id i=>zHG ((luk ([]:List Nat) [] id).contains i),luk [] [(6,[3])]⟩
def ann241:zDM:=⟨fun id i=>zHG ((luk ([]:List Nat) [(5,[5])] id).contains i),luk [] []⟩
def ann262:zDM:=⟨fun id i=>zHG ((luk ([]:List Nat) [(3,[8])] id).contains i),luk [] [(3,[8,10])]⟩
def zHI (f:Nat):zDM:=luk noAnn [(5,ann5),(6,ann6),(7,ann7),(9,ann9),(10,ann10),(14,ann14),(18,ann18),(19,ann19),(20,ann20),(21,ann21),(22,ann22),(23,ann23),(24,ann24),(26,ann26),(28,ann28),(29,ann29),(30,ann30),(31,ann31),(33,ann33),(34,ann34),(36,ann36),(37,ann37),(38,ann38),(40,ann40),(41,ann41),(42,ann42),(43,ann43),(46,ann46),(47,ann47),(48,ann48),(49,ann49),(50,ann50),(51,ann51),(52,ann52),(53,ann53),(57,ann57),(58,ann58),(60,ann60),(61,ann61),(65,ann65),(67,ann67),(68,ann68),(69,ann69),(70,ann70),(73,ann73),(75,ann75),(76,ann76),(81,ann81),(82,ann82),(83,ann83),(86,ann86),(87,ann87),(88,ann88),(89,ann89),(90,ann90),(91,ann91),(92,ann92),(94,ann94),(95,ann95),(97,ann97),(99,ann99),(101,ann101),(107,ann107),(108,ann108),(113,ann113),(116,ann116),(117,ann117),(128,ann128),(129,ann129),(130,ann130),(135,ann135),(142,ann142),(144,ann144),(145,ann145),(146,ann146),(148,ann148),(159,ann159),(160,ann160),(161,ann161),(164,ann164),(167,ann167),(168,ann168),(170,ann170),(172,ann172),(173,ann173),(174,ann174),(175,ann175),(176,ann176),(177,ann177),(179,ann179),(180,ann180),(183,ann183),(186,ann186),(194,ann194),(196,ann196),(198,ann198),(199,ann199),(201,ann201),(203,ann203),(213,ann213),(214,ann214),(218,ann218),(220,ann220),(221,ann221),(225,zHH),(226,ann226),(233,ann233),(235,ann235),(240,ann240),(241,ann241),(262,ann262)] f
end Go.V
