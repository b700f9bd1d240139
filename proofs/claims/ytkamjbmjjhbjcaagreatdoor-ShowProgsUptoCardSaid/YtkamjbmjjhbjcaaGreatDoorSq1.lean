import Derived.Test.YtkamjbmjjhbjcaaGreatDoorSz0
import Derived.KernelRfl
set_option linter.unusedVariables false
set_option linter.unusedSimpArgs false
set_option linter.unusedSectionVars false
namespace Go.Proofs.YtkamjbmjjhbjcaaGreatDoor
open Go.RowKit
set_option maxRecDepth 100000
variable(O:Q→Option Rs)
theorem h12(a b c d e):body PG EE TT O (q12 a b c d e)=g12 (T:=Sm) a b c d e O:=by kernel_rfl
theorem h12b0a(a b c d e f):body PG EE TT O (q12b0a a b c d e f)=g12b0a (T:=Sm) a b c d e f O:=by kernel_rfl
theorem h13(a b c d e):body PG EE TT O (q13 a b c d e)=g13 (T:=Sm) a b c d e O:=by kernel_rfl
theorem h13b0a(a b c d e f g):body PG EE TT O (q13b0a a b c d e f g)=g13b0a (T:=Sm) a b c d e f g O:=by kernel_rfl
theorem h14(a b c d):body PG EE TT O (q14 a b c d)=g14 (T:=Sm) a b c d O:=by kernel_rfl
theorem h14b0a(a b c d e):body PG EE TT O (q14b0a a b c d e)=g14b0a (T:=Sm) a b c d e O:=by kernel_rfl
theorem h15(a b c d):body PG EE TT O (q15 a b c d)=g15 (T:=Sm) a b c d O:=by kernel_rfl
theorem h15b0a(a b c d e f):body PG EE TT O (q15b0a a b c d e f)=g15b0a (T:=Sm) a b c d e f O:=by kernel_rfl
theorem h16(a b c d e):body PG EE TT O (q16 a b c d e)=g16 (T:=Sm) a b c d e O:=by kernel_rfl
theorem h16b1a(a b c d):body PG EE TT O (q16b1a a b c d)=g16b1a (T:=Sm) a b c d O:=by kernel_rfl
theorem h17(a b c d):body PG EE TT O (q17 a b c d)=g17 (T:=Sm) a b c d O:=by kernel_rfl
theorem h29(a b c d):body PG EE TT O (q29 a b c d)=g29 (T:=Sm) a b c d O:=by kernel_rfl
theorem h32(a b c d e):body PG EE TT O (q32 a b c d e)=g32 (T:=Sm) a b c d e O:=by kernel_rfl
theorem h42(a b c d):body PG EE TT O (q42 a b c d)=g42 (T:=Sm) a b c d O:=by kernel_rfl
theorem h44(a b c d):body PG EE TT O (q44 a b c d)=g44 (T:=Sm) a b c d O:=by kernel_rfl
theorem h44b0a(a b c d):body PG EE TT O (q44b0a a b c d)=g44b0a (T:=Sm) a b c d O:=by kernel_rfl
theorem h88(a b c d):body PG EE TT O (q88 a b c d)=g88 (T:=Sm) a b c d O:=by kernel_rfl
theorem h41(a):body PG EE TT O (q41 a)=g41 (T:=Sm) a O:=by kernel_rfl
theorem h84(a):body PG EE TT O (q84 a)=g84 (T:=Sm) a O:=by kernel_rfl
theorem h85(a):body PG EE TT O (q85 a)=g85 (T:=Sm) a O:=by kernel_rfl
theorem h85b0a(a b):body PG EE TT O (q85b0a a b)=g85b0a (T:=Sm) a b O:=by kernel_rfl
theorem h86(a):body PG EE TT O (q86 a)=g86 (T:=Sm) a O:=by kernel_rfl
theorem h127(a):body PG EE TT O (q127 a)=g127 (T:=Sm) a O:=by kernel_rfl
theorem h128(a):body PG EE TT O (q128 a)=g128 (T:=Sm) a O:=by kernel_rfl
theorem h74a(a):body PG EE TT O (q74a a)=g74a (T:=Sm) a O:=by kernel_rfl
theorem h74ab0a(a b c):body PG EE TT O (q74ab0a a b c)=g74ab0a (T:=Sm) a b c O:=by kernel_rfl
theorem h75a(a):body PG EE TT O (q75a a)=g75a (T:=Sm) a O:=by kernel_rfl
theorem h75ab0a(a b c):body PG EE TT O (q75ab0a a b c)=g75ab0a (T:=Sm) a b c O:=by kernel_rfl
theorem h9(a b c d e f g h i j k):body PG EE TT O (q9 a b c d e f g h i j k)=g9 (T:=Sm) a b c d e f g h i j k O:=by kernel_rfl
theorem h27(a b c d e f g h i j k):body PG EE TT O (q27 a b c d e f g h i j k)=g27 (T:=Sm) a b c d e f g h i j k O:=by kernel_rfl
theorem h28(a b c d e f g h i j k):body PG EE TT O (q28 a b c d e f g h i j k)=g28 (T:=Sm) a b c d e f g h i j k O:=by kernel_rfl
theorem h30(a b c d):body PG EE TT O (q30 a b c d)=g30 (T:=Sm) a b c d O:=by kernel_rfl
theorem h35(a b c d e f g h i j k l m):body PG EE TT O (q35 a b c d e f g h i j k l m)=g35 (T:=Sm) a b c d e f g h i j k l m O:=by kernel_rfl
theorem h71(a):body PG EE TT O (q71 a)=g71 (T:=Sm) a O:=by kernel_rfl
theorem h33a(a):body PG EE TT O (q33a a)=g33a (T:=Sm) a O:=by kernel_rfl
theorem h33ab0a(a b c):body PG EE TT O (q33ab0a a b c)=g33ab0a (T:=Sm) a b c O:=by kernel_rfl
theorem h34a(a):body PG EE TT O (q34a a)=g34a (T:=Sm) a O:=by kernel_rfl
theorem h34ab0a(a b c):body PG EE TT O (q34ab0a a b c)=g34ab0a (T:=Sm) a b c O:=by kernel_rfl
theorem h36a(a):body PG EE TT O (q36a a)=g36a (T:=Sm) a O:=by kernel_rfl
theorem h36ab0a(a b c):body PG EE TT O (q36ab0a a b c)=g36ab0a (T:=Sm) a b c O:=by kernel_rfl
theorem h8(a b c d e f g h i j k):body PG EE TT O (q8 a b c d e f g h i j k)=g8 (T:=Sm) a b c d e f g h i j k O:=by kernel_rfl
theorem h8b0a(a b c d e f g h i j k l):body PG EE TT O (q8b0a a b c d e f g h i j k l)=g8b0a (T:=Sm) a b c d e f g h i j k l O:=by kernel_rfl
theorem h8b2a(a b c d e f g h i j k l):body PG EE TT O (q8b2a a b c d e f g h i j k l)=g8b2a (T:=Sm) a b c d e f g h i j k l O:=by kernel_rfl
theorem h25(a b c d e f g h i j k):body PG EE TT O (q25 a b c d e f g h i j k)=g25 (T:=Sm) a b c d e f g h i j k O:=by kernel_rfl
theorem h26(a):body PG EE TT O (q26 a)=g26 (T:=Sm) a O:=by kernel_rfl
theorem h26b0a(a b):body PG EE TT O (q26b0a a b)=g26b0a (T:=Sm) a b O:=by kernel_rfl
theorem h68(a):body PG EE TT O (q68 a)=g68 (T:=Sm) a O:=by kernel_rfl
theorem h68b0a(a b):body PG EE TT O (q68b0a a b)=g68b0a (T:=Sm) a b O:=by kernel_rfl
theorem h69(a):body PG EE TT O (q69 a)=g69 (T:=Sm) a O:=by kernel_rfl
theorem h63(a):body PG EE TT O (q63 a)=g63 (T:=Sm) a O:=by kernel_rfl
theorem h107(a b):body PG EE TT O (q107 a b)=g107 (T:=Sm) a b O:=by kernel_rfl
theorem h107b0a(a b c d):body PG EE TT O (q107b0a a b c d)=g107b0a (T:=Sm) a b c d O:=by kernel_rfl
theorem h107b0b(a b c d):body PG EE TT O (q107b0b a b c d)=g107b0b (T:=Sm) a b c d O:=by kernel_rfl
theorem h107b0c(a b c d):body PG EE TT O (q107b0c a b c d)=g107b0c (T:=Sm) a b c d O:=by kernel_rfl
theorem h37(a b c d e f g h i j k):body PG EE TT O (q37 a b c d e f g h i j k)=g37 (T:=Sm) a b c d e f g h i j k O:=by kernel_rfl
theorem h77a(a b c d e f g h i j k):body PG EE TT O (q77a a b c d e f g h i j k)=g77a (T:=Sm) a b c d e f g h i j k O:=by kernel_rfl
theorem h77b(a b c d e f g h i j k):body PG EE TT O (q77b a b c d e f g h i j k)=g77b (T:=Sm) a b c d e f g h i j k O:=by kernel_rfl
theorem h118a(a b c d e f g h i j k):body PG EE TT O (q118a a b c d e f g h i j k)=g118a (T:=Sm) a b c d e f g h i j k O:=by kernel_rfl
theorem h118b(a b c d e f g h i j k):body PG EE TT O (q118b a b c d e f g h i j k)=g118b (T:=Sm) a b c d e f g h i j k O:=by kernel_rfl
theorem h153a(a b c d e f g h i j k):body PG EE TT O (q153a a b c d e f g h i j k)=g153a (T:=Sm) a b c d e f g h i j k O:=by kernel_rfl
theorem h153ab1a(a b c d e f g h i j k l m n o p q):body PG EE TT O (q153ab1a a b c d e f g h i j k l m n o p q)=g153ab1a (T:=Sm) a b c d e f g h i j k l m n o p q O:=by kernel_rfl
theorem h116a(a b c d e f g h i j k):body PG EE TT O (q116a a b c d e f g h i j k)=g116a (T:=Sm) a b c d e f g h i j k O:=by kernel_rfl
theorem h153b(a b c d e f g h i j k):body PG EE TT O (q153b a b c d e f g h i j k)=g153b (T:=Sm) a b c d e f g h i j k O:=by kernel_rfl
theorem h153bb1a(a b c d e f g h i j k l m n o p q):body PG EE TT O (q153bb1a a b c d e f g h i j k l m n o p q)=g153bb1a (T:=Sm) a b c d e f g h i j k l m n o p q O:=by kernel_rfl
theorem h116b(a b c d e f g h i j k):body PG EE TT O (q116b a b c d e f g h i j k)=g116b (T:=Sm) a b c d e f g h i j k O:=by kernel_rfl
theorem h150a(a b c d e f g h i j k l):body PG EE TT O (q150a a b c d e f g h i j k l)=g150a (T:=Sm) a b c d e f g h i j k l O:=by kernel_rfl
theorem h150b(a b c d e f g h i j k l):body PG EE TT O (q150b a b c d e f g h i j k l)=g150b (T:=Sm) a b c d e f g h i j k l O:=by kernel_rfl
theorem h119a(a b c d e f g h i j k):body PG EE TT O (q119a a b c d e f g h i j k)=g119a (T:=Sm) a b c d e f g h i j k O:=by kernel_rfl
theorem h151a(a b c d e f g h i j k):body PG EE TT O (q151a a b c d e f g h i j k)=g151a (T:=Sm) a b c d e f g h i j k O:=by kernel_rfl
theorem h151ab1a(a b c d e):body PG EE TT O (q151ab1a a b c d e)=g151ab1a (T:=Sm) a b c d e O:=by kernel_rfl
theorem h150c(a b c d e f g h i j k l):body PG EE TT O (q150c a b c d e f g h i j k l)=g150c (T:=Sm) a b c d e f g h i j k l O:=by kernel_rfl
theorem h150d(a b c d e f g h i j k l):body PG EE TT O (q150d a b c d e f g h i j k l)=g150d (T:=Sm) a b c d e f g h i j k l O:=by kernel_rfl
theorem h119b(a b c d e f g h i j k):body PG EE TT O (q119b a b c d e f g h i j k)=g119b (T:=Sm) a b c d e f g h i j k O:=by kernel_rfl
theorem h151b(a b c d e f g h i j k):body PG EE TT O (q151b a b c d e f g h i j k)=g151b (T:=Sm) a b c d e f g h i j k O:=by kernel_rfl
theorem h151bb1a(a b c d e):body PG EE TT O (q151bb1a a b c d e)=g151bb1a (T:=Sm) a b c d e O:=by kernel_rfl
theorem h76a(a b c d e f g h i j k):body PG EE TT O (q76a a b c d e f g h i j k)=g76a (T:=Sm) a b c d e f g h i j k O:=by kernel_rfl
theorem h116c(a b c d e f g h i j k):body PG EE TT O (q116c a b c d e f g h i j k)=g116c (T:=Sm) a b c d e f g h i j k O:=by kernel_rfl
theorem h154a(a b c d e f g h i j k):body PG EE TT O (q154a a b c d e f g h i j k)=g154a (T:=Sm) a b c d e f g h i j k O:=by kernel_rfl
theorem h78a(a b c d e f g h i j k):body PG EE TT O (q78a a b c d e f g h i j k)=g78a (T:=Sm) a b c d e f g h i j k O:=by kernel_rfl
theorem h116d(a b c d e f g h i j k):body PG EE TT O (q116d a b c d e f g h i j k)=g116d (T:=Sm) a b c d e f g h i j k O:=by kernel_rfl
theorem h154b(a b c d e f g h i j k):body PG EE TT O (q154b a b c d e f g h i j k)=g154b (T:=Sm) a b c d e f g h i j k O:=by kernel_rfl
theorem h150e(a b c d e f g h i j k l):body PG EE TT O (q150e a b c d e f g h i j k l)=g150e (T:=Sm) a b c d e f g h i j k l O:=by kernel_rfl
theorem h76b(a b c d e f g h i j k):body PG EE TT O (q76b a b c d e f g h i j k)=g76b (T:=Sm) a b c d e f g h i j k O:=by kernel_rfl
theorem h150f(a b c d e f g h i j k l):body PG EE TT O (q150f a b c d e f g h i j k l)=g150f (T:=Sm) a b c d e f g h i j k l O:=by kernel_rfl
theorem h11(a b c d e f g h i j k):body PG EE TT O (q11 a b c d e f g h i j k)=g11 (T:=Sm) a b c d e f g h i j k O:=by kernel_rfl
theorem h38a(a b c d e f g h i j k l m n):body PG EE TT O (q38a a b c d e f g h i j k l m n)=g38a (T:=Sm) a b c d e f g h i j k l m n O:=by kernel_rfl
theorem h38b(a b c d e f g h i j k l m n):body PG EE TT O (q38b a b c d e f g h i j k l m n)=g38b (T:=Sm) a b c d e f g h i j k l m n O:=by kernel_rfl
theorem h79a(a b c d e f g h i j k l m n):body PG EE TT O (q79a a b c d e f g h i j k l m n)=g79a (T:=Sm) a b c d e f g h i j k l m n O:=by kernel_rfl
theorem h79ab1a(a b c d e f g h i j k l m n o):body PG EE TT O (q79ab1a a b c d e f g h i j k l m n o)=g79ab1a (T:=Sm) a b c d e f g h i j k l m n o O:=by kernel_rfl
theorem h79b(a b c d e f g h i j k l m n):body PG EE TT O (q79b a b c d e f g h i j k l m n)=g79b (T:=Sm) a b c d e f g h i j k l m n O:=by kernel_rfl
theorem h79bb1a(a b c d e f g h i j k l m n o):body PG EE TT O (q79bb1a a b c d e f g h i j k l m n o)=g79bb1a (T:=Sm) a b c d e f g h i j k l m n o O:=by kernel_rfl
theorem h121a(a b c d):body PG EE TT O (q121a a b c d)=g121a (T:=Sm) a b c d O:=by kernel_rfl
theorem h122a(a b c d e f g h i j k l m n o):body PG EE TT O (q122a a b c d e f g h i j k l m n o)=g122a (T:=Sm) a b c d e f g h i j k l m n o O:=by kernel_rfl
theorem h122b(a b c d e f g h i j k l m n o):body PG EE TT O (q122b a b c d e f g h i j k l m n o)=g122b (T:=Sm) a b c d e f g h i j k l m n o O:=by kernel_rfl
theorem h123a(a b c d e f g h i j k l m n):body PG EE TT O (q123a a b c d e f g h i j k l m n)=g123a (T:=Sm) a b c d e f g h i j k l m n O:=by kernel_rfl
theorem h124a(a b c d e f g h i j k l m n):body PG EE TT O (q124a a b c d e f g h i j k l m n)=g124a (T:=Sm) a b c d e f g h i j k l m n O:=by kernel_rfl
theorem h124ab1a(a b c d e f g h i j k l m n o):body PG EE TT O (q124ab1a a b c d e f g h i j k l m n o)=g124ab1a (T:=Sm) a b c d e f g h i j k l m n o O:=by kernel_rfl
theorem h121b(a b c d):body PG EE TT O (q121b a b c d)=g121b (T:=Sm) a b c d O:=by kernel_rfl
theorem h122c(a b c d e f g h i j k l m n o):body PG EE TT O (q122c a b c d e f g h i j k l m n o)=g122c (T:=Sm) a b c d e f g h i j k l m n o O:=by kernel_rfl
theorem h122d(a b c d e f g h i j k l m n o):body PG EE TT O (q122d a b c d e f g h i j k l m n o)=g122d (T:=Sm) a b c d e f g h i j k l m n o O:=by kernel_rfl
theorem h123b(a b c d e f g h i j k l m n):body PG EE TT O (q123b a b c d e f g h i j k l m n)=g123b (T:=Sm) a b c d e f g h i j k l m n O:=by kernel_rfl
theorem h124b(a b c d e f g h i j k l m n):body PG EE TT O (q124b a b c d e f g h i j k l m n)=g124b (T:=Sm) a b c d e f g h i j k l m n O:=by kernel_rfl
theorem h124bb1a(a b c d e f g h i j k l m n o):body PG EE TT O (q124bb1a a b c d e f g h i j k l m n o)=g124bb1a (T:=Sm) a b c d e f g h i j k l m n o O:=by kernel_rfl
theorem h156a(a b c d e f g h i j k l m n):body PG EE TT O (q156a a b c d e f g h i j k l m n)=g156a (T:=Sm) a b c d e f g h i j k l m n O:=by kernel_rfl
theorem h79c(a b c d e f g h i j k l m n):body PG EE TT O (q79c a b c d e f g h i j k l m n)=g79c (T:=Sm) a b c d e f g h i j k l m n O:=by kernel_rfl
theorem h158a(a b c d e f g h i j k l m n):body PG EE TT O (q158a a b c d e f g h i j k l m n)=g158a (T:=Sm) a b c d e f g h i j k l m n O:=by kernel_rfl
theorem h160a(a b c d):body PG EE TT O (q160a a b c d)=g160a (T:=Sm) a b c d O:=by kernel_rfl
theorem h156b(a b c d e f g h i j k l m n):body PG EE TT O (q156b a b c d e f g h i j k l m n)=g156b (T:=Sm) a b c d e f g h i j k l m n O:=by kernel_rfl
theorem h79d(a b c d e f g h i j k l m n):body PG EE TT O (q79d a b c d e f g h i j k l m n)=g79d (T:=Sm) a b c d e f g h i j k l m n O:=by kernel_rfl
theorem h158b(a b c d e f g h i j k l m n):body PG EE TT O (q158b a b c d e f g h i j k l m n)=g158b (T:=Sm) a b c d e f g h i j k l m n O:=by kernel_rfl
theorem h160b(a b c d):body PG EE TT O (q160b a b c d)=g160b (T:=Sm) a b c d O:=by kernel_rfl
theorem h122e(a b c d e f g h i j k l m n o):body PG EE TT O (q122e a b c d e f g h i j k l m n o)=g122e (T:=Sm) a b c d e f g h i j k l m n o O:=by kernel_rfl
theorem h122f(a b c d e f g h i j k l m n o):body PG EE TT O (q122f a b c d e f g h i j k l m n o)=g122f (T:=Sm) a b c d e f g h i j k l m n o O:=by kernel_rfl
theorem h147(a):body PG EE TT O (q147 a)=g147 (T:=Sm) a O:=by kernel_rfl
theorem h147b0a(a b c d):body PG EE TT O (q147b0a a b c d)=g147b0a (T:=Sm) a b c d O:=by kernel_rfl
theorem h147b0b(a b c d e):body PG EE TT O (q147b0b a b c d e)=g147b0b (T:=Sm) a b c (.rows d) e O:=by kernel_rfl
theorem h148(a):body PG EE TT O (q148 a)=g148 (T:=Sm) a O:=by kernel_rfl
theorem h117(a b):body PG EE TT O (q117 a b)=g117 (T:=Sm) a b O:=by kernel_rfl
theorem h115(a b):body PG EE TT O (q115 a b)=g115 (T:=Sm) a b O:=by kernel_rfl
theorem h149(a b c d e f g h i j k):body PG EE TT O (q149 a b c d e f g h i j k)=g149 (T:=Sm) a b c d e f g h i j k O:=by kernel_rfl
theorem h152(a b c d e f g h i j k):body PG EE TT O (q152 a b c d e f g h i j k)=g152 (T:=Sm) a b c d e f g h i j k O:=by kernel_rfl
theorem h98(a):body PG EE TT O (q98 a)=g98 (T:=Sm) a O:=by kernel_rfl
theorem h188g0(a):body PG EE TT O (q188g0 a)=g188g0 (T:=Sm) a O:=by kernel_rfl
theorem h188g1(a):body PG EE TT O (q188g1 a)=g188g1 (T:=Sm) a O:=by kernel_rfl
theorem h178(a b c d e):body PG EE TT O (q178 a b c d e)=g178 (T:=Sm) a b c d e O:=by kernel_rfl
theorem h178b0a(a b c d):body PG EE TT O (q178b0a a b c d)=g178b0a (T:=Sm) a b c d O:=by kernel_rfl
theorem h179(a b c d):body PG EE TT O (q179 a b c d)=g179 (T:=Sm) a b c d O:=by kernel_rfl
theorem h179b0a(a b c d e f g h):body PG EE TT O (q179b0a a b c d e f g h)=g179b0a (T:=Sm) a b c d e f g h O:=by kernel_rfl
theorem h176g0(a b):body PG EE TT O (q176g0 a b)=g176g0 (T:=Sm) a b O:=by kernel_rfl
theorem h176g1(a b):body PG EE TT O (q176g1 a b)=g176g1 (T:=Sm) a b O:=by kernel_rfl
theorem h187(a):body PG EE TT O (q187 a)=g187 (T:=Sm) a O:=by kernel_rfl
theorem h120(a b c d e f g h i j k):body PG EE TT O (q120 a b c d e f g h i j k)=g120 (T:=Sm) a b c d e f g h i j k O:=by kernel_rfl
theorem h155(a b c d e f g h i j k):body PG EE TT O (q155 a b c d e f g h i j k)=g155 (T:=Sm) a b c d e f g h i j k O:=by kernel_rfl
theorem h157g0(a b):body PG EE TT O (q157g0 a b)=g157g0 (T:=Sm) a b O:=by kernel_rfl
theorem h157g1(a b):body PG EE TT O (q157g1 a b)=g157g1 (T:=Sm) a b O:=by kernel_rfl
theorem h143(a):body PG EE TT O (q143 a)=g143 (T:=Sm) a O:=by kernel_rfl
theorem h159(a):body PG EE TT O (q159 a)=g159 (T:=Sm) a O:=by kernel_rfl
theorem h159b0a(a b c):body PG EE TT O (q159b0a a b c)=g159b0a (T:=Sm) a b c O:=by kernel_rfl
theorem h161(a b c d e):body PG EE TT O (q161 a b c d e)=g161 (T:=Sm) a b c d e O:=by kernel_rfl
theorem h161b0a(a b c d e f g):body PG EE TT O (q161b0a a b c d e f g)=g161b0a (T:=Sm) a b c d e f g O:=by kernel_rfl
theorem h162(a b c d):body PG EE TT O (q162 a b c d)=g162 (T:=Sm) a b c d O:=by kernel_rfl
theorem h162b0a(a b c d e f):body PG EE TT O (q162b0a a b c d e f)=g162b0a (T:=Sm) a b c d e f O:=by kernel_rfl
theorem h7(a b c d e f g h i j k l):body PG EE TT O (q7 a b c d e f g h i j k l)=g7 (T:=Sm) a b c d e f g h i j k l O:=by kernel_rfl
theorem h24(a b c d e f g h i j k l):body PG EE TT O (q24 a b c d e f g h i j k l)=g24 (T:=Sm) a b c d e f g h i j k l O:=by kernel_rfl
theorem h24b0a(a b c d e f g h i j k l m n):body PG EE TT O (q24b0a a b c d e f g h i j k l m n)=g24b0a (T:=Sm) a b c d e f g h i j k l m n O:=by kernel_rfl
theorem h24b2a(a b c d e f g h i j k l m n):body PG EE TT O (q24b2a a b c d e f g h i j k l m n)=g24b2a (T:=Sm) a b c d e f g h i j k l m n O:=by kernel_rfl
theorem h24b4a(a b c d e f g h i j k l m n):body PG EE TT O (q24b4a a b c d e f g h i j k l m n)=g24b4a (T:=Sm) a b c d e f g h i j k l m n O:=by kernel_rfl
theorem h142(a):body PG EE TT O (q142 a)=g142 (T:=Sm) a O:=by kernel_rfl
theorem h142b0a(a b c):body PG EE TT O (q142b0a a b c)=g142b0a (T:=Sm) a (.rows b) c O:=by kernel_rfl
theorem h142b2a(a b c d):body PG EE TT O (q142b2a a b c d)=g142b2a (T:=Sm) a (.rows b) c d O:=by kernel_rfl
theorem h177(a):body PG EE TT O (q177 a)=g177 (T:=Sm) a O:=by kernel_rfl
theorem h177b0a(a b c d):body PG EE TT O (q177b0a a b c d)=g177b0a (T:=Sm) a b c (.rows d) O:=by kernel_rfl
theorem h177b0b(a b c d):body PG EE TT O (q177b0b a b c d)=g177b0b (T:=Sm) a b c (.rows d) O:=by kernel_rfl
theorem h31(a b c d e f g h i j k l m n o p):body PG EE TT O (q31 a b c d e f g h i j k l m n o p)=g31 (T:=Sm) a b c d e f g h i j k l m n o p O:=by kernel_rfl
theorem h20(a b c d):body PG EE TT O (q20 a b c d)=g20 (T:=Sm) a b c d O:=by kernel_rfl
theorem h49(a b c d e):body PG EE TT O (q49 a b c d e)=g49 (T:=Sm) a b c d e O:=by kernel_rfl
theorem h51(a b c d e f):body PG EE TT O (q51 a b c d e f)=g51 (T:=Sm) a b c d e f O:=by kernel_rfl
theorem h53(a b c d e f g h):body PG EE TT O (q53 a b c d e f g h)=g53 (T:=Sm) a b c d e f g h O:=by kernel_rfl
theorem h90(a b c):body PG EE TT O (q90 a b c)=g90 (T:=Sm) a b c O:=by kernel_rfl
theorem h93(a b c d e f):body PG EE TT O (q93 a b c d e f)=g93 (T:=Sm) a b c d e f O:=by kernel_rfl
theorem h95(a b c d e):body PG EE TT O (q95 a b c d e)=g95 (T:=Sm) a b c d e O:=by kernel_rfl
theorem h21(a b c d):body PG EE TT O (q21 a b c d)=g21 (T:=Sm) a b c d O:=by kernel_rfl
theorem h55(a b c d e):body PG EE TT O (q55 a b c d e)=g55 (T:=Sm) a b c d e O:=by kernel_rfl
theorem h55b0a(a b c d e f g h i):body PG EE TT O (q55b0a a b c d e f g h i)=g55b0a (T:=Sm) a b c d e f g h i O:=by kernel_rfl
theorem h55b2a(a b c d e f g h i j k l):body PG EE TT O (q55b2a a b c d e f g h i j k l)=g55b2a (T:=Sm) a b c d e f g h i j k l O:=by kernel_rfl
theorem h57(a b c d e f):body PG EE TT O (q57 a b c d e f)=g57 (T:=Sm) a b c d e f O:=by kernel_rfl
theorem h57b0a(a b c d e f g h i j):body PG EE TT O (q57b0a a b c d e f g h i j)=g57b0a (T:=Sm) a b c d e f g h i j O:=by kernel_rfl
theorem h57b2a(a b c d):body PG EE TT O (q57b2a a b c d)=g57b2a (T:=Sm) a b c d O:=by kernel_rfl
theorem h59(a b c d e f g h):body PG EE TT O (q59 a b c d e f g h)=g59 (T:=Sm) a b c d e f g h O:=by kernel_rfl
theorem h59b0a(a b c d e f g h i j k l):body PG EE TT O (q59b0a a b c d e f g h i j k l)=g59b0a (T:=Sm) a b c d e f g h i j k l O:=by kernel_rfl
theorem h59b2a(a b c d):body PG EE TT O (q59b2a a b c d)=g59b2a (T:=Sm) a b c d O:=by kernel_rfl
theorem h61(a b c d e f g h i j k l m):body PG EE TT O (q61 a b c d e f g h i j k l m)=g61 (T:=Sm) a b c d e f g h i j k l m O:=by kernel_rfl
theorem h48a(a):body PG EE TT O (q48a a)=g48a (T:=Sm) a O:=by kernel_rfl
theorem h48ab0a(a b c):body PG EE TT O (q48ab0a a b c)=g48ab0a (T:=Sm) a b c O:=by kernel_rfl
theorem h50a(a):body PG EE TT O (q50a a)=g50a (T:=Sm) a O:=by kernel_rfl
theorem h50ab0a(a b c):body PG EE TT O (q50ab0a a b c)=g50ab0a (T:=Sm) a b c O:=by kernel_rfl
theorem h52a(a):body PG EE TT O (q52a a)=g52a (T:=Sm) a O:=by kernel_rfl
theorem h52ab0a(a b c):body PG EE TT O (q52ab0a a b c)=g52ab0a (T:=Sm) a b c O:=by kernel_rfl
theorem h91a(a):body PG EE TT O (q91a a)=g91a (T:=Sm) a O:=by kernel_rfl
theorem h91ab0a(a b c):body PG EE TT O (q91ab0a a b c)=g91ab0a (T:=Sm) a b c O:=by kernel_rfl
theorem h92a(a):body PG EE TT O (q92a a)=g92a (T:=Sm) a O:=by kernel_rfl
theorem h92ab0a(a b c):body PG EE TT O (q92ab0a a b c)=g92ab0a (T:=Sm) a b c O:=by kernel_rfl
theorem h91b(a):body PG EE TT O (q91b a)=g91b (T:=Sm) a O:=by kernel_rfl
theorem h91bb0a(a b c):body PG EE TT O (q91bb0a a b c)=g91bb0a (T:=Sm) a b c O:=by kernel_rfl
theorem h94a(a):body PG EE TT O (q94a a)=g94a (T:=Sm) a O:=by kernel_rfl
theorem h94ab0a(a b c):body PG EE TT O (q94ab0a a b c)=g94ab0a (T:=Sm) a b c O:=by kernel_rfl
theorem h96a(a):body PG EE TT O (q96a a)=g96a (T:=Sm) a O:=by kernel_rfl
theorem h96ab0a(a b c):body PG EE TT O (q96ab0a a b c)=g96ab0a (T:=Sm) a b c O:=by kernel_rfl
theorem h54a(a):body PG EE TT O (q54a a)=g54a (T:=Sm) a O:=by kernel_rfl
theorem h54ab0a(a b c d):body PG EE TT O (q54ab0a a b c d)=g54ab0a (T:=Sm) a b c d O:=by kernel_rfl
theorem h56a(a):body PG EE TT O (q56a a)=g56a (T:=Sm) a O:=by kernel_rfl
theorem h56ab0a(a b c d):body PG EE TT O (q56ab0a a b c d)=g56ab0a (T:=Sm) a b c d O:=by kernel_rfl
theorem h58a(a):body PG EE TT O (q58a a)=g58a (T:=Sm) a O:=by kernel_rfl
theorem h58ab0a(a b c d):body PG EE TT O (q58ab0a a b c d)=g58ab0a (T:=Sm) a b c d O:=by kernel_rfl
theorem h60a(a):body PG EE TT O (q60a a)=g60a (T:=Sm) a O:=by kernel_rfl
theorem h60ab0a(a b c d):body PG EE TT O (q60ab0a a b c d)=g60ab0a (T:=Sm) a b c d O:=by kernel_rfl
theorem h18(a b c d):body PG EE TT O (q18 a b c d)=g18 (T:=Sm) a b c d O:=by kernel_rfl
theorem h18b0a(a b c d e f g):body PG EE TT O (q18b0a a b c d e f g)=g18b0a (T:=Sm) a b c d e f g O:=by kernel_rfl
theorem h18b2a(a b c d e f g h i j):body PG EE TT O (q18b2a a b c d e f g h i j)=g18b2a (T:=Sm) a b c d e f g h i j O:=by kernel_rfl
theorem h18b4a(a b c d e f g):body PG EE TT O (q18b4a a b c d e f g)=g18b4a (T:=Sm) a b c d e f g O:=by kernel_rfl
theorem h18b6a(a b c d e f g h i j):body PG EE TT O (q18b6a a b c d e f g h i j)=g18b6a (T:=Sm) a b c d e f g h i j O:=by kernel_rfl
theorem h18b8a(a b c d e f g):body PG EE TT O (q18b8a a b c d e f g)=g18b8a (T:=Sm) a b c d e f g O:=by kernel_rfl
theorem h18b10a(a b c):body PG EE TT O (q18b10a a b c)=g18b10a (T:=Sm) a b c O:=by kernel_rfl
theorem h19(a b c d):body PG EE TT O (q19 a b c d)=g19 (T:=Sm) a b c d O:=by kernel_rfl
theorem h19b0a(a b c d e):body PG EE TT O (q19b0a a b c d e)=g19b0a (T:=Sm) a b c d e O:=by kernel_rfl
theorem h19b2a(a b c d e):body PG EE TT O (q19b2a a b c d e)=g19b2a (T:=Sm) a b c d e O:=by kernel_rfl
theorem h19b4a(a b c d e):body PG EE TT O (q19b4a a b c d e)=g19b4a (T:=Sm) a b c d e O:=by kernel_rfl
theorem h45(a b c d e):body PG EE TT O (q45 a b c d e)=g45 (T:=Sm) a b c d e O:=by kernel_rfl
theorem h45b0a(a b c d e f):body PG EE TT O (q45b0a a b c d e f)=g45b0a (T:=Sm) a b c d e f O:=by kernel_rfl
theorem h45b2a(a b c d e f):body PG EE TT O (q45b2a a b c d e f)=g45b2a (T:=Sm) a b c d e f O:=by kernel_rfl
theorem h45b4a(a b c d e f g):body PG EE TT O (q45b4a a b c d e f g)=g45b4a (T:=Sm) a b c d e f g O:=by kernel_rfl
theorem h46(a b c d e f):body PG EE TT O (q46 a b c d e f)=g46 (T:=Sm) a b c d e f O:=by kernel_rfl
theorem h46b0a(a b c d e f g):body PG EE TT O (q46b0a a b c d e f g)=g46b0a (T:=Sm) a b c d e f g O:=by kernel_rfl
theorem h47(a b c d e f g h):body PG EE TT O (q47 a b c d e f g h)=g47 (T:=Sm) a b c d e f g h O:=by kernel_rfl
theorem h47b0a(a b c d e f g h i):body PG EE TT O (q47b0a a b c d e f g h i)=g47b0a (T:=Sm) a b c d e f g h i O:=by kernel_rfl
theorem h89(a):body PG EE TT O (q89 a)=g89 (T:=Sm) a O:=by kernel_rfl
theorem h89b0a(a b):body PG EE TT O (q89b0a a b)=g89b0a (T:=Sm) a b O:=by kernel_rfl
theorem h64(a b c d e f g h i j k l m):body PG EE TT O (q64 a b c d e f g h i j k l m)=g64 (T:=Sm) a b c d e f g h i j k l m O:=by kernel_rfl
theorem h62(a b c):body PG EE TT O (q62 a b c)=g62 (T:=Sm) a b c O:=by kernel_rfl
theorem h62b0a(a b c d e):body PG EE TT O (q62b0a a b c d e)=g62b0a (T:=Sm) a b c d e O:=by kernel_rfl
theorem h22(a b c d):body PG EE TT O (q22 a b c d)=g22 (T:=Sm) a b c d O:=by kernel_rfl
theorem h22b0a(a b c d e f):body PG EE TT O (q22b0a a b c d e f)=g22b0a (T:=Sm) a b c d e f O:=by kernel_rfl
theorem h22b2a(a b c d e f g h i j k l):body PG EE TT O (q22b2a a b c d e f g h i j k l)=g22b2a (T:=Sm) a b c d e f g h i j k l O:=by kernel_rfl
theorem h22b2b(a b c d e f g h i j k l m):body PG EE TT O (q22b2b a b c d e f g h i j k l m)=g22b2b (T:=Sm) a (.rows b) c d e f g h i j k l m O:=by kernel_rfl
theorem h22b4a(a b c d e f g h i j k l m n):body PG EE TT O (q22b4a a b c d e f g h i j k l m n)=g22b4a (T:=Sm) a b c d e f g h i j k l m n O:=by kernel_rfl
theorem h22b4b(a b c d e f g h i j k l m n o):body PG EE TT O (q22b4b a b c d e f g h i j k l m n o)=g22b4b (T:=Sm) a b c (.rows d) e f g h i j k l m n o O:=by kernel_rfl
theorem h22b6a(a b c d e f):body PG EE TT O (q22b6a a b c d e f)=g22b6a (T:=Sm) a b c d e f O:=by kernel_rfl
theorem h22b8a(a b c d e f g h i j k l m):body PG EE TT O (q22b8a a b c d e f g h i j k l m)=g22b8a (T:=Sm) a b c d e f g h i j k l m O:=by kernel_rfl
theorem h22b10a(a b c d e f g h i j k l m):body PG EE TT O (q22b10a a b c d e f g h i j k l m)=g22b10a (T:=Sm) a b c d e f g h i j k l m O:=by kernel_rfl
theorem h22b12a(a b c d e f):body PG EE TT O (q22b12a a b c d e f)=g22b12a (T:=Sm) a b c d e f O:=by kernel_rfl
theorem h22b14a(a b c d e f g h i j k l m n o):body PG EE TT O (q22b14a a b c d e f g h i j k l m n o)=g22b14a (T:=Sm) a b c d e f g h i j k l m n o O:=by kernel_rfl
theorem h22b14b(a b c d e f g h i j k l m n o p):body PG EE TT O (q22b14b a b c d e f g h i j k l m n o p)=g22b14b (T:=Sm) a (.rows b) c d e f g h i j k l m n o p O:=by kernel_rfl
theorem h22b16a(a b c d e f g h i j k l m n o):body PG EE TT O (q22b16a a b c d e f g h i j k l m n o)=g22b16a (T:=Sm) a b c d e f g h i j k l m n o O:=by kernel_rfl
theorem h22b18a(a b c d e f):body PG EE TT O (q22b18a a b c d e f)=g22b18a (T:=Sm) a b c d e f O:=by kernel_rfl
theorem h72(a):body PG EE TT O (q72 a)=extK (extL1 xUp [a]):=by kernel_rfl
theorem h73(a):body PG EE TT O (q73 a)=extK (extL1 xLow [a]):=by kernel_rfl
theorem h39(a):body PG EE TT O (q39 a)=extK (extL1 xUp [a]):=by kernel_rfl
theorem h40(a):body PG EE TT O (q40 a)=extK (extL1 xLow [a]):=by kernel_rfl
theorem h43(a):body PG EE TT O (q43 a)=extK (extL1 xTxt [a]):=by kernel_rfl
theorem h109(a):body PG EE TT O (q109 a)=extK (extL1 xOp [a]):=by kernel_rfl
theorem h99(a):body PG EE TT O (q99 a)=extK (extL1 xOp [a]):=by kernel_rfl
theorem h70(a):body PG EE TT O (q70 a)=extK (extL1 xUtf [a]):=by kernel_rfl
theorem h97(a b):body PG EE TT O (q97 a b)=extK (extL2 xJoin [a,b]):=by kernel_rfl
theorem h175(a b):body PG EE TT O (q175 a b)=extK (extL2 xByte [a,b]):=by kernel_rfl
end Go.Proofs.YtkamjbmjjhbjcaaGreatDoor
