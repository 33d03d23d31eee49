/- The functions of this seat as the abstract machine has them (printed by a program), and that its compiler makes them of the given program. -/
import Derived.Test.YtkeagffmmhllcaaGreatPD8
import Derived.Test.YtkeagffmmhllcaaGreatProg
import Derived.KernelRfl
set_option linter.unusedVariables false
set_option linter.unusedSimpArgs false
set_option linter.unusedSectionVars false
namespace Go.Proofs.YtkeagffmmhllcaaGreat
open Go.Abs
def lit0:ByteArray:=⟨#[0,1,2,2,3,3,3,3,4,4,4,4,4,4,4,4,5,5,5,5,5,5,5,5,5,5,5,5,5,5,5,5,6,6,6,6,6,6,6,6,6,6,6,6,6,6,6,6,6,6,6,6,6,6,6,6,6,6,6,6,6,6,6,6,7,7,7,7,7,7,7,7,7,7,7,7,7,7,7,7,7,7,7,7,7,7,7,7,7,7,7,7,7,7,7,7,7,7,7,7,7,7,7,7,7,7,7,7,7,7,7,7,7,7,7,7,7,7,7,7,7,7,7,7,7,7,7,7,8,8,8,8,8,8,8,8,8,8,8,8,8,8,8,8,8,8,8,8,8,8,8,8,8,8,8,8,8,8,8,8,8,8,8,8,8,8,8,8,8,8,8,8,8,8,8,8,8,8,8,8,8,8,8,8,8,8,8,8,8,8,8,8,8,8,8,8,8,8,8,8,8,8,8,8,8,8,8,8,8,8,8,8,8,8,8,8,8,8,8,8,8,8,8,8,8,8,8,8,8,8,8,8,8,8,8,8,8,8,8,8,8,8,8,8,8,8,8,8,8,8,8,8,8,8,8,8]⟩
namespace K
def x(n:Nat):E:=.var n
def i(n:Int):E:=.cst (.int .i64 n)
def c(a b:E):E:=.cons a b
def c1(a:E):E:=.cons a .nil
def c2(a b:E):E:=.cons a (.cons b .nil)
def c3(a b c:E):E:=.cons a (.cons b (.cons c .nil))
def n1(o:LOp)(a:E):E:=.node o (.cons a .nil)
def n2(o:LOp)(a b:E):E:=.node o (.cons a (.cons b .nil))
def b(o:BinOp)(a b:E):E:=.node (.bin o) (.cons a (.cons b .nil))
def ld(a:E):E:=.node (.ld 1 false) (.cons a .nil)
def fa(n:Nat)(a:E):E:=.node (.fAddr n) (.cons a .nil)
def ix(n:Nat)(a:E):E:=.node (.ext n) (.cons a .nil)
def p(a b c:E):E:=.pick a b c
def h(d:Nat)(o:HOp)(a:E):Stm:=.hv [] [] [] (some d) o a
def cl(d f:Nat)(a:E):Stm:=.hv [] [] [] (some d) (.call false) (.cons (.cst (.func (.func f) #[] #[])) a)
def s(l:List (Nat×E)):Stm:=.sets l []
def q(a b:Stm):Stm:=.seq a b
end K
set_option linter.defProp false in
def kB:=And.intro @K.x.eq_1 (And.intro @K.i.eq_1 (And.intro @K.c.eq_1 (And.intro @K.c1.eq_1 (And.intro @K.c2.eq_1 (And.intro @K.c3.eq_1 (And.intro @K.n1.eq_1 (And.intro @K.n2.eq_1 (And.intro @K.b.eq_1 (And.intro @K.ld.eq_1 (And.intro @K.fa.eq_1 (And.intro @K.ix.eq_1 (And.intro @K.p.eq_1 (And.intro @K.h.eq_1 (And.intro @K.cl.eq_1 (And.intro @K.s.eq_1 @K.q.eq_1)))))))))))))))
section
open K
def bd2:Stm:=
 .hv [] [] [] none (.call false) (c1 (.cst (.func (.func 1) #[] #[])))
def cf2:CF:=⟨0,0,[],bd2⟩
def tr2:List Nat:=[]
def bd3:Stm:=
 q (s [(3,.cst (.bool false))]) (q (.cond (b .gtr (n1 .len (x 0)) (i 3000)) (q (q (cl 8 5 .nil) (s [(3,x 8)])) .ret) .skip) (q (q (cl 9 6 (c3 (x 0) (x 1) (x
 2))) (s [(5,ix 1 (x 9)),(4,ix 0 (x 9))])) (q (q (cl 10 7 (c3 (x 0) (x 1) (x 2))) (s [(7,ix 1 (x 10)),(6,ix 0 (x 10))])) (q (q (.hv [(11,b .eql (x 5) (x
 7))] [] [(b .eql (x 5) (x 7),true)] (some 12) (.call false) (c3 (.cst (.func (.func 8) #[] #[])) (x 4) (x 6))) (q (.hv [(13,p (x 11) (x 12) (.cst (.bool
 false)))] [] [(p (x 11) (x 12) (.cst (.bool false)),true)] (some 14) (.call false) (c1 (.cst (.func (.func 5) #[] #[])))) (s [(3,p (x 13) (x 14) (.cst
 (.bool false)))]))) .ret))))
def cf3:CF:=⟨3,15,[(.var 3)],bd3⟩
def tr3:List Nat:=[0,1,2,6,7,8,9,10,14,19,26,32,35,37,38]
def bd4:Stm:=
 q (s [(4,.cst (.bool false))]) (q (.cond (p (b .gtr (n1 .len (x 0)) (i 800)) (.cst (.bool true)) (b .gtr (n1 .len (x 1)) (i 800))) (q (q (cl 11 5 .nil) (s [(4,
 x 11)])) .ret) .skip) (q (q (cl 12 9 (c (x 0) (c3 (x 1) (x 2) (x 3)))) (s [(7,ix 2 (x 12)),(6,ix 1 (x 12)),(5,ix 0 (x 12))])) (q (q (cl 13 10 (c (x 0)
 (c3 (x 1) (x 2) (x 3)))) (s [(10,ix 2 (x 13)),(9,ix 1 (x 13)),(8,ix 0 (x 13))])) (q (q (.hv [(14,p (b .eql (x 7) (x 10)) (b .eql (x 6) (x 9)) (.cst
 (.bool false)))] [] [(p (b .eql (x 7) (x 10)) (b .eql (x 6) (x 9)) (.cst (.bool false)),true)] (some 15) (.call false) (c3 (.cst (.func (.func 8) #[] #[]))
 (x 5) (x 8))) (q (.hv [(16,p (x 14) (x 15) (.cst (.bool false)))] [] [(p (x 14) (x 15) (.cst (.bool false)),true)] (some 17) (.call false) (c1 (.cst (.func
 (.func 5) #[] #[])))) (s [(4,p (x 16) (x 17) (.cst (.bool false)))]))) .ret))))
def cf4:CF:=⟨4,18,[(.var 4)],bd4⟩
def tr4:List Nat:=[0,1,2,3,8,9,10,11,12,13,14,23,29,38,50,53,55,56]
def bd5:Stm:=
 q (s [(0,.cst (.bool false))]) (q (q (cl 8 11 .nil) (q (cl 9 6 (c3 (x 8) (i 1) (i 2))) (s [(2,ix 1 (x 9)),(1,ix 0 (x 9))]))) (q (q (.hv [(11,p (p (b .neq
 (x 2) (i 0)) (.cst (.bool true)) (b .neq (n1 .len (x 1)) (i 26))) (.cst (.tuple #[])) (n2 (.sl 1 false true false) (x 1) (i 16))),(10,p (b .neq (x 2) (i 0))
 (.cst (.bool true)) (b .neq (n1 .len (x 1)) (i 26)))] [] [(p (b .neq (x 2) (i 0)) (.cst (.bool true)) (b .neq (n1 .len (x 1)) (i 26)),false)] (some 12)
 (.call false) (c1 (.cst (.func (.func 11) #[] #[])))) (q (.hv [] [] [(x 10,false)] (some 13) (.call false) (c3 (.cst (.func (.func 8) #[] #[])) (x 11) (x
 12))) (q (.hv [(15,p (p (x 10) (.cst (.bool true)) (n1 (.un .not) (x 13))) (.cst (.tuple #[])) (n2 (.sl 1 true false false) (x 1) (i 16))),(14,p (x 10)
 (.cst (.bool true)) (n1 (.un .not) (x 13)))] [] [(p (x 10) (.cst (.bool true)) (n1 (.un .not) (x 13)),false)] (some 16) (.bSl [.int .i64 0] 10 [0,1,2,3,
 4,5,6,7,8,9]) (c (i 196) (c (i 35) (c (i 39) (c (i 119) (c (i 235) (c (i 215) (c (i 231) (c3 (i 226) (i 93) (i 23)))))))))) (q (.hv [] [] [(x 14,false)]
 (some 17) (.call false) (c3 (.cst (.func (.func 8) #[] #[])) (x 15) (x 16))) (.cond (p (x 14) (.cst (.bool true)) (n1 (.un .not) (x 17))) (q (s [(0,.cst
 (.bool false))]) .ret) .skip))))) (q (.hv [] [] [] none (.st 1) (c2 (n2 (.iAddr 1) (x 1) (i 3)) (i 0))) (q (q (cl 18 9 (c (x 1) (c3 (.cst (.slice none 0 0))
 (i 1) (i 2)))) (s [(5,ix 2 (x 18)),(4,ix 1 (x 18)),(3,ix 0 (x 18))])) (q (q (cl 19 12 (c2 (i 5) (i 3))) (s [(7,ix 1 (x 19)),(6,ix 0 (x 19))])) (q
 (.cond (p (p (b .neq (x 5) (i 0)) (.cst (.bool true)) (b .neq (x 7) (i 0))) (.cst (.bool true)) (b .neq (n1 .len (x 6)) (i 134))) (q (s [(0,.cst (.bool
 false))]) .ret) .skip) (q (q (.hv [(20,x 3)] [] [] (some 21) (.call false) (c1 (.cst (.func (.func 11) #[] #[])))) (q (cl 22 8 (c2 (x 20) (x 21))) (s [(0,p
 (p (p (p (p (x 22) (b .eql (x 4) (i 1)) (.cst (.bool false))) (n2 (.eqA false [1,1]) (n1 (.ld 2 true) (n2 (.iAddr 2) (x 6) (i 4))) (n2 (.build [.int .i64 0,
 .int .i64 0] [(0,1),(1,1)]) (i 0) (i 1))) (.cst (.bool false))) (n2 (.eqA false [1,1]) (n1 (.ld 2 true) (n2 (.iAddr 2) (x 6) (i 60))) (n2 (.build [.int
 .i64 0,.int .i64 0] [(0,1),(1,1)]) (i 2) (i 15))) (.cst (.bool false))) (n2 (.eqA false [1,1]) (n1 (.ld 2 true) (n2 (.iAddr 2) (x 6) (i 61))) (n2 (.build
 [.int .i64 0,.int .i64 0] [(0,1),(1,1)]) (i 3) (i 15))) (.cst (.bool false))) (n2 (.eqA false [1,1]) (n1 (.ld 2 true) (n2 (.iAddr 2) (x 6) (i 62))) (n2
 (.build [.int .i64 0,.int .i64 0] [(0,1),(1,1)]) (i 0) (i 15))) (.cst (.bool false)))]))) .ret)))))))
def cf5:CF:=⟨0,23,[(.var 0)],bd5⟩
def tr5:List Nat:=[0,1,2,3,4,5,6,7,9,10,20,22,23,24,27,29,30,31,38,43,57,58,59]
def bd6:Stm:=
 q (s [(4,i 0),(3,.cst (.slice none 0 0))]) (q (q (cl 14 13 (c3 (x 0) (x 1) (x 2))) (s [(6,ix 1 (x 14)),(5,ix 0 (x 14))])) (q (.cond (b .neq (x 6) (i 0))
 (q (s [(4,x 6),(3,.cst (.slice none 0 0))]) .ret) .skip) (q (q (cl 15 14 (c2 (x 1) (x 2))) (q (.hv [(17,ix 1 (x 15)),(16,ix 0 (x 15))] [] [] (some 7)
 (.alloc [.int .i64 0,.int .i64 0,.int .i64 0,.int .i64 0]) .nil) (q (.hv [] [] [] none (.st 4) (c2 (x 7) (x 16))) (.sets [] [x 17])))) (q (q (cl 18 15 (c1
 (ld (fa 3 (x 7))))) (q (.hv [(20,ix 1 (x 18)),(19,ix 0 (x 18))] [] [] (some 8) (.alloc [.int .i64 0,.int .i64 0,.int .i64 0,.int .i64 0,.int .i64 0])
 .nil) (q (.hv [] [] [] none (.st 5) (c2 (x 8) (x 19))) (s [(6,x 20)])))) (q (.cond (b .neq (x 6) (i 0)) (q (s [(4,x 6),(3,.cst (.slice none 0 0))]) .ret)
 .skip) (q (q (h 21 (.mkSl [.slice none 0 0]) (c2 (n1 .len (x 5)) (n1 .len (x 5)))) (s [(9,x 21)])) (q (q (s [(24,i 0),(23,n1 .len (x 5)),(22,x 5)])
 (.block 0 (.loop (q (.cond (b .lss (x 24) (x 23)) .skip (.exit 0)) (q (.block 1 (q (s [(11,ld (n2 (.iAddr 1) (x 22) (x 24))),(10,x 24)]) (q (q (cl 25 16
 (c2 (n1 (.ld 5 true) (x 8)) (x 11))) (s [(13,ix 1 (x 25)),(12,ix 0 (x 25))])) (q (.cond (b .neq (x 13) (i 0)) (q (s [(4,x 13),(3,.cst (.slice none 0
 0))]) .ret) .skip) (.hv [] [] [] none (.st 1) (c2 (n2 (.iAddr 1) (x 9) (x 10)) (n2 (.sl 1 true false false) (x 12) (n1 .len (x 11))))))))) (s [(24,b .add (x
 24) (i 1))])))))) (q (q (cl 26 17 (c1 (x 5))) (q (cl 27 17 (c1 (x 9))) (q (h 28 (.app 1 [.int .i64 0]) (c2 (x 26) (x 27))) (s [(4,i 0),(3,x 28)]))))
 .ret))))))))
def cf6:CF:=⟨3,29,[(.var 3),(.var 4)],bd6⟩
def tr6:List Nat:=[0,1,2,6,7,8,9,10,12,13,14,15,16,17,22,31,32,33,37,38,39,45,46,47,48,56,71,73,74]
def bd7:Stm:=
 q (s [(4,i 0),(3,.cst (.slice none 0 0))]) (q (q (cl 14 18 (c3 (x 0) (x 1) (x 2))) (s [(6,ix 1 (x 14)),(5,ix 0 (x 14))])) (q (.cond (b .neq (x 6) (i 0))
 (q (s [(4,x 6),(3,.cst (.slice none 0 0))]) .ret) .skip) (q (q (cl 15 19 (c2 (x 1) (x 2))) (q (.hv [(17,ix 1 (x 15)),(16,ix 0 (x 15))] [] [] (some 7)
 (.alloc [.int .i64 0,.int .i64 0,.int .i64 0,.int .i64 0]) .nil) (q (.hv [] [] [] none (.st 4) (c2 (x 7) (x 16))) (.sets [] [x 17])))) (q (s [(8,.cst
 (.slice none 0 0))]) (q (q (s [(9,i 0)]) (.block 0 (.loop (q (.cond (b .lss (x 9) (n1 .len (x 5))) .skip (.exit 0)) (q (.block 1 (q (q (.hv [(19,ld (n2
 (.iAddr 1) (x 5) (x 9)))] [] [] (some 18) (.call true) (c2 (.cst (.func (.func 21) #[] #[])) (ld (fa 3 (x 7))))) (q (cl 20 20 (c2 (x 18) (x 19))) (.sets [(10,
 ix 0 (x 20))] [ix 1 (x 20)]))) (q (.hv [(21,x 8)] [] [] (some 22) (.bSl [.slice none 0 0] 1 [0]) (c1 (x 10))) (q (h 23 (.app 1 [.slice none 0 0]) (c2 (x 21)
 (x 22))) (s [(8,x 23)]))))) (s [(9,b .add (x 9) (i 1))])))))) (q (q (cl 24 22 (c2 (x 1) (x 2))) (.sets [(11,ix 0 (x 24))] [ix 1 (x 24)])) (q (s [(12,.cst
 (.slice none 0 0))]) (q (q (s [(13,i 0)]) (.block 2 (.loop (q (.cond (b .lss (x 13) (n1 .len (x 11))) .skip (.exit 2)) (q (.block 3 (q (.hv [(25,x 12)] []
 [] (some 26) (.bSl [.int .i64 0] 1 [0]) (c1 (ld (n2 (.iAddr 1) (ld (n2 (.iAddr 1) (x 8) (ld (fa 0 (n2 (.iAddr 2) (x 11) (x 13)))))) (ld (fa 1 (n2 (.iAddr 2)
 (x 11) (x 13)))))))) (q (h 27 (.app 1 [.int .i64 0]) (c2 (x 25) (x 26))) (s [(12,x 27)])))) (s [(13,b .add (x 13) (i 1))])))))) (q (s [(4,i 0),(3,x 12)])
 .ret)))))))))
def cf7:CF:=⟨3,28,[(.var 3),(.var 4)],bd7⟩
def tr7:List Nat:=[0,1,2,6,7,8,9,10,12,13,14,16,18,19,24,33,34,35,45,49,50,53,55,56,60,69,85,86]
def bd8:Stm:=
 q (s [(2,.cst (.bool false))]) (q (.cond (b .neq (n1 .len (x 0)) (n1 .len (x 1))) (q (s [(2,.cst (.bool false))]) .ret) .skip) (q (q (s [(3,i 0)]) (.block 0
 (.loop (q (.cond (b .lss (x 3) (n1 .len (x 0))) .skip (.exit 0)) (q (.block 1 (.cond (b .neq (ld (n2 (.iAddr 1) (x 0) (x 3))) (ld (n2 (.iAddr 1) (x 1) (x
 3)))) (q (s [(2,.cst (.bool false))]) .ret) .skip)) (s [(3,b .add (x 3) (i 1))])))))) (q (s [(2,.cst (.bool true))]) .ret)))
def cf8:CF:=⟨2,4,[(.var 2)],bd8⟩
def tr8:List Nat:=[0,1,4,5]
def bd9:Stm:=
 q (s [(6,i 0),(5,i 0),(4,.cst (.slice none 0 0))]) (q (q (cl 17 12 (c2 (x 2) (x 3))) (s [(8,ix 1 (x 17)),(7,ix 0 (x 17))])) (q (.cond (b .neq (x 8) (i
 0)) (q (s [(6,x 8),(5,i 0),(4,.cst (.slice none 0 0))]) .ret) .skip) (q (.cond (p (b .neq (n1 .len (x 0)) (n1 .len (x 7))) (.cst (.bool true)) (p (b .neq
 (n1 .len (x 1)) (i 0)) (b .neq (n1 .len (x 1)) (n1 .len (x 0))) (.cst (.bool false)))) (q (s [(6,i 7),(5,i 0),(4,.cst (.slice none 0 0))]) .ret) .skip)
 (q (.cond (b .eql (n1 .len (x 1)) (i 0)) (q (h 18 (.mkSl [.bool false]) (c2 (n1 .len (x 0)) (n1 .len (x 0)))) (s [(1,x 18)])) .skip) (q (q (s [(21,i 0),
 (20,n1 .len (x 0)),(19,x 0)]) (.block 0 (.loop (q (.cond (b .lss (x 21) (x 20)) .skip (.exit 0)) (q (.block 1 (q (s [(10,ld (n2 (.iAddr 1) (x 19) (x
 21))),(9,x 21)]) (.cond (p (n1 (.un .not) (ld (n2 (.iAddr 1) (x 1) (x 9)))) (p (b .lss (x 10) (i 0)) (.cst (.bool true)) (b .gtr (x 10) (i 255))) (.cst
 (.bool false))) (q (s [(6,i 3),(5,i 0),(4,.cst (.slice none 0 0))]) .ret) .skip))) (s [(21,b .add (x 21) (i 1))])))))) (q (q (cl 22 14 (c2 (x 2) (x 3)))
 (q (.hv [(24,ix 1 (x 22)),(23,ix 0 (x 22))] [] [] (some 11) (.alloc [.int .i64 0,.int .i64 0,.int .i64 0,.int .i64 0]) .nil) (q (.hv [] [] [] none (.st
 4) (c2 (x 11) (x 23))) (.sets [] [x 24])))) (q (q (cl 25 23 (c (x 0) (c3 (x 1) (x 7) (n1 (.ld 4 true) (x 11))))) (s [(8,ix 2 (x 25)),(13,ix 1 (x 25)),(12,
 ix 0 (x 25))])) (q (.cond (b .neq (x 8) (i 0)) (q (s [(6,x 8),(5,i 0),(4,.cst (.slice none 0 0))]) .ret) .skip) (q (s [(14,i 0)]) (q (q (s [(28,i 0),
 (27,n1 .len (x 7)),(26,x 7)]) (.block 2 (.loop (q (.cond (b .lss (x 28) (x 27)) .skip (.exit 2)) (q (.block 3 (q (q (.hv [(30,n1 (.ld 2 true) (n2 (.iAddr
 2) (x 26) (x 28))),(29,x 28)] [] [] (some 16) (.alloc [.int .i64 0,.int .i64 0]) .nil) (.hv [(15,x 29)] [] [] none (.st 2) (c2 (x 16) (x 30)))) (.cond (b
 .neq (ld (n2 (.iAddr 1) (ld (n2 (.iAddr 1) (x 13) (ld (fa 0 (x 16))))) (ld (fa 1 (x 16))))) (ld (n2 (.iAddr 1) (x 0) (x 15)))) (s [(14,b .add (x 14) (i 1))])
 .skip))) (s [(28,b .add (x 28) (i 1))])))))) (q (s [(6,i 0),(5,x 14),(4,x 12)]) .ret)))))))))))
def cf9:CF:=⟨4,31,[(.var 4),(.var 5),(.var 6)],bd9⟩
def tr9:List Nat:=[0,1,2,3,8,9,10,11,12,13,14,15,17,18,19,20,21,25,53,54,55,56,78,79,80,86,93,94,95,97,99]
def bd10:Stm:=
 q (s [(6,i 0),(5,i 0),(4,.cst (.slice none 0 0))]) (q (q (cl 20 19 (c2 (x 2) (x 3))) (q (.hv [(22,ix 1 (x 20)),(21,ix 0 (x 20))] [] [] (some 7) (.alloc
 [.int .i64 0,.int .i64 0,.int .i64 0,.int .i64 0]) .nil) (q (.hv [] [] [] none (.st 4) (c2 (x 7) (x 21))) (s [(8,x 22)])))) (q (.cond (b .neq (x 8) (i 0))
 (q (s [(6,x 8),(5,i 0),(4,.cst (.slice none 0 0))]) .ret) .skip) (q (q (cl 23 22 (c2 (x 2) (x 3))) (.sets [(9,ix 0 (x 23))] [ix 1 (x 23)])) (q (.cond (p
 (b .neq (n1 .len (x 0)) (n1 .len (x 9))) (.cst (.bool true)) (p (b .neq (n1 .len (x 1)) (i 0)) (b .neq (n1 .len (x 1)) (n1 .len (x 0))) (.cst (.bool false))))
 (q (s [(6,i 7),(5,i 0),(4,.cst (.slice none 0 0))]) .ret) .skip) (q (q (cl 24 24 (c2 (x 0) (x 1))) (.cond (n1 (.un .not) (x 24)) (q (s [(6,i 3),(5,i
 0),(4,.cst (.slice none 0 0))]) .ret) .skip)) (q (s [(10,.cst (.slice none 0 0))]) (q (s [(11,i 0)]) (q (q (s [(12,i 0)]) (.block 0 (.loop (q (.cond (b
 .lss (x 12) (b .add (ld (fa 0 (x 7))) (ld (fa 1 (x 7))))) .skip (.exit 0)) (q (.block 1 (q (s [(13,ld (fa 2 (x 7)))]) (q (.cond (b .geq (x 12) (ld (fa 0 (x
 7)))) (s [(13,b .add (x 13) (i 1))]) .skip) (q (q (cl 25 25 (c (x 0) (c (x 1) (c3 (x 9) (x 12) (b .add (x 13) (ld (fa 3 (x 7)))))))) (s [(16,ix 2 (x 25)),
 (15,ix 1 (x 25)),(14,ix 0 (x 25))])) (q (q (cl 26 21 (c1 (ld (fa 3 (x 7))))) (q (cl 27 26 (c3 (x 26) (x 14) (x 15))) (q (.hv [(29,ix 1 (x 27)),(28,ix 0
 (x 27))] [] [] (some 17) (.alloc [.slice none 0 0,.slice none 0 0]) .nil) (q (.hv [] [] [] none (.st 2) (c2 (x 17) (x 28))) (s [(18,x 29)]))))) (q (.cond (b
 .neq (x 18) (i 0)) (q (s [(6,i 17),(5,i 0),(4,.cst (.slice none 0 0))]) .ret) .skip) (q (q (s [(19,i 0)]) (.block 2 (.loop (q (.cond (b .lss (x 19) (n1
 .len (ld (fa 0 (x 17))))) .skip (.exit 2)) (q (.block 3 (.cond (b .neq (ld (n2 (.iAddr 1) (ld (fa 0 (x 17))) (x 19))) (ld (n2 (.iAddr 1) (x 0) (ld (n2 (.iAddr
 1) (x 16) (x 19)))))) (s [(11,b .add (x 11) (i 1))]) .skip)) (s [(19,b .add (x 19) (i 1))])))))) (q (h 30 (.app 1 [.int .i64 0]) (c2 (x 10) (n2 (.sl 1 false
 true false) (ld (fa 0 (x 17))) (x 13)))) (s [(10,x 30)]))))))))) (s [(12,b .add (x 12) (i 1))])))))) (q (s [(6,i 0),(5,x 11),(4,x 10)]) .ret)))))))))
def cf10:CF:=⟨4,31,[(.var 4),(.var 5),(.var 6)],bd10⟩
def tr10:List Nat:=[0,1,2,3,8,9,10,11,12,13,15,16,17,18,19,20,21,22,23,24,28,29,30,37,59,87,94,97,98,99,129]
def bd11:Stm:=
 q (s [(0,.cst (.slice none 0 0))]) (q (q (h 1 (.bSl [.int .i64 0] 16 [0,1,2,3,4,5,6,7,8,9,10,11,12,13,14,15]) (c (i 32) (c (i 91) (c (i 11) (c
 (i 120) (c (i 209) (c (i 114) (c (i 220) (c (i 77) (c (i 67) (c (i 64) (c (i 236) (c (i 17) (c (i 236) (c3 (i 17) (i 236) (i 17)))))))))))))))) (s [(0,x
 1)])) .ret)
def cf11:CF:=⟨0,2,[(.var 0)],bd11⟩
def tr11:List Nat:=[0,1]
def bd12:Stm:=
 q (s [(3,i 0),(2,.cst (.slice none 0 0))]) (q (q (cl 10 14 (c2 (x 0) (x 1))) (q (.hv [(12,ix 1 (x 10)),(11,ix 0 (x 10))] [] [] (some 4) (.alloc [.int .i64
 0,.int .i64 0,.int .i64 0,.int .i64 0]) .nil) (q (.hv [] [] [] none (.st 4) (c2 (x 4) (x 11))) (s [(5,x 12)])))) (q (.cond (b .neq (x 5) (i 0)) (q (s [(3,
 x 5),(2,.cst (.slice none 0 0))]) .ret) .skip) (q (s [(7,.cst (.slice none 0 0)),(6,.cst (.slice none 0 0))]) (q (q (q (cl 13 27 (c1 (n1 (.ld 4 true) (x
 4)))) (s [(15,i 0),(14,n1 .len (x 13))])) (.block 0 (.loop (q (.cond (b .lss (x 15) (x 14)) .skip (.exit 0)) (q (.block 1 (q (s [(9,ld (n2 (.iAddr 1) (x
 13) (x 15))),(8,x 15)]) (q (q (.hv [(16,x 6)] [] [] (some 17) (.call false) (c (.cst (.func (.func 28) #[] #[])) (c3 (x 8) (i 0) (x 9)))) (q (h 18 (.bSl
 [.slice none 0 0] 1 [0]) (c1 (x 17))) (q (h 19 (.app 1 [.slice none 0 0]) (c2 (x 16) (x 18))) (s [(6,x 19)])))) (q (.hv [(20,x 7)] [] [] (some 21) (.call
 false) (c (.cst (.func (.func 28) #[] #[])) (c3 (x 8) (x 9) (ld (fa 3 (x 4)))))) (q (h 22 (.bSl [.slice none 0 0] 1 [0]) (c1 (x 21))) (q (h 23 (.app 1 [.slice
 none 0 0]) (c2 (x 20) (x 22))) (s [(7,x 23)]))))))) (s [(15,b .add (x 15) (i 1))])))))) (q (q (cl 24 29 (c1 (x 6))) (q (cl 25 29 (c1 (x 7))) (q (h 26 (.app
 2 [.int .i64 0,.int .i64 0]) (c2 (x 24) (x 25))) (s [(3,i 0),(2,x 26)])))) .ret)))))
def cf12:CF:=⟨2,27,[(.var 2),(.var 3)],bd12⟩
def tr12:List Nat:=[0,1,4,5,6,7,8,9,10,11,15,16,17,22,23,24,29,32,33,34,35,40,41,42,45,47,48]
def bd13:Stm:=
 q (s [(4,i 0),(3,.cst (.slice none 0 0))]) (q (q (cl 12 14 (c2 (x 1) (x 2))) (q (.hv [(14,ix 1 (x 12)),(13,ix 0 (x 12))] [] [] (some 5) (.alloc [.int .i64
 0,.int .i64 0,.int .i64 0,.int .i64 0]) .nil) (q (.hv [] [] [] none (.st 4) (c2 (x 5) (x 13))) (s [(6,x 14)])))) (q (.cond (b .neq (x 6) (i 0)) (q (s [(4,
 x 6),(3,.cst (.slice none 0 0))]) .ret) .skip) (q (q (cl 15 30 (c2 (x 1) (x 2))) (s [(6,ix 1 (x 15)),(7,ix 0 (x 15))])) (q (.cond (b .neq (x 6) (i 0)) (q
 (s [(4,x 6),(3,.cst (.slice none 0 0))]) .ret) .skip) (q (.cond (b .neq (n1 .len (x 0)) (x 7)) (q (s [(4,i 7),(3,.cst (.slice none 0 0))]) .ret) .skip)
 (q (q (s [(18,i 0),(17,n1 .len (x 0)),(16,x 0)]) (.block 0 (.loop (q (.cond (b .lss (x 18) (x 17)) .skip (.exit 0)) (q (.block 1 (q (s [(8,ld (n2
 (.iAddr 1) (x 16) (x 18)))]) (.cond (p (b .lss (x 8) (i 0)) (.cst (.bool true)) (b .gtr (x 8) (i 255))) (q (s [(4,i 3),(3,.cst (.slice none 0 0))]) .ret)
 .skip))) (s [(18,b .add (x 18) (i 1))])))))) (q (s [(9,.cst (.slice none 0 0))]) (q (q (q (cl 19 27 (c1 (n1 (.ld 4 true) (x 5)))) (s [(21,i 0),(20,n1
 .len (x 19))])) (.block 2 (.loop (q (.cond (b .lss (x 21) (x 20)) .skip (.exit 2)) (q (.block 3 (q (s [(10,ld (n2 (.iAddr 1) (x 19) (x 21)))]) (q (q (h 22
 (.mkSl [.int .i64 0]) (c2 (x 10) (x 10))) (s [(11,x 22)])) (q (.hv [] [] [] none (.cpy 1) (c2 (x 11) (x 0))) (q (s [(0,n2 (.sl 1 true false false) (x 0) (x
 10))]) (q (.hv [(23,x 9)] [] [] (some 24) (.bSl [.slice none 0 0] 1 [0]) (c1 (x 11))) (q (h 25 (.app 1 [.slice none 0 0]) (c2 (x 23) (x 24))) (s [(9,x
 25)])))))))) (s [(21,b .add (x 21) (i 1))])))))) (q (s [(4,i 0),(3,x 9)]) .ret)))))))))
def cf13:CF:=⟨3,26,[(.var 3),(.var 4)],bd13⟩
def tr13:List Nat:=[0,1,2,6,7,8,9,10,12,13,15,16,20,21,22,29,39,40,41,53,54,55,60,67,69,70]
def bd14:Stm:=
 q (q (h 2 (.alloc [.int .i64 0,.int .i64 0,.int .i64 0,.int .i64 0]) .nil) (s [(3,i 0)])) (q (q (cl 9 31 (c2 (x 0) (x 1))) (s [(7,ix 3 (x 9)),(6,ix 2 (x
 9)),(5,ix 1 (x 9)),(4,ix 0 (x 9))])) (q (.cond (b .neq (x 7) (i 0)) (q (q (.hv [(10,x 7)] [] [] none (.st 4) (c2 (x 2) (.node (.build [.int .i64 0,.int
 .i64 0,.int .i64 0,.int .i64 0] []) .nil))) (s [(3,x 10)])) .ret) .skip) (q (s [(8,b .rem (x 4) (x 6))]) (q (q (.hv [] [] [] none (.st 4) (c2 (x 2) (.node
 (.build [.int .i64 0,.int .i64 0,.int .i64 0,.int .i64 0] [(0,1),(1,1),(2,1),(3,1)]) (c (b .sub (x 6) (x 8)) (c3 (x 8) (b .quo (x 4) (x 6)) (x
 5)))))) (s [(3,i 0)])) .ret))))
def cf14:CF:=⟨2,11,[(.node (.ld 4 true) (.cons (.var 2) .nil)),(.var 3)],bd14⟩
def tr14:List Nat:=[0,1,4,5,6,7,8,9,10,14,22]
def bd15:Stm:=
 q (q (h 1 (.alloc [.int .i64 0,.int .i64 0,.int .i64 0,.int .i64 0,.int .i64 0]) .nil) (s [(2,i 0)])) (q (q (cl 5 32 (c2 (i 8) (i 285))) (q (.hv [(7,ix 1
 (x 5)),(6,ix 0 (x 5))] [] [] (some 3) (.alloc [.int .i64 0,.int .i64 0,.int .i64 0]) .nil) (q (.hv [] [] [] none (.st 3) (c2 (x 3) (x 6))) (s [(4,x
 7)])))) (q (.cond (b .neq (x 4) (i 0)) (q (q (.hv [(8,x 4)] [] [] none (.st 5) (c2 (x 1) (.node (.build [.int .i64 0,.int .i64 0,.int .i64 0,.int .i64 0,
 .int .i64 0] []) .nil))) (s [(2,x 8)])) .ret) .skip) (q (q (cl 9 33 (c3 (n1 (.ld 3 true) (x 3)) (x 0) (i 0))) (q (.hv [(10,ix 1 (x 9))] [] [] none (.st 5)
 (c2 (x 1) (ix 0 (x 9)))) (s [(2,x 10)]))) .ret)))
def cf15:CF:=⟨1,11,[(.node (.ld 5 true) (.cons (.var 1) .nil)),(.var 2)],bd15⟩
def tr15:List Nat:=[0,2,3,4,5,7,8,9,13,16,18]
def bd16:Stm:=
 q (q (h 2 .box (c1 (x 0))) (s [(4,i 0),(3,.cst (.slice none 0 0))])) (q (q (cl 15 34 (c2 (n1 (.ld 5 true) (x 2)) (x 1))) (.cond (n1 (.un .not) (x 15)) (q (s
 [(4,i 1),(3,.cst (.slice none 0 0))]) .ret) .skip)) (q (q (.hv [(16,b .eql (n1 .len (x 1)) (i 0))] [] [(b .eql (n1 .len (x 1)) (i 0),false)] (some 17)
 (.call false) (c3 (.cst (.func (.func 35) #[] #[])) (n1 (.ld 5 true) (x 2)) (b .add (n1 .len (x 1)) (ld (fa 3 (x 2)))))) (.cond (p (x 16) (.cst (.bool true))
 (n1 (.un .not) (x 17))) (q (s [(4,i 7),(3,.cst (.slice none 0 0))]) .ret) .skip)) (q (q (cl 18 36 (c1 (n1 (.ld 5 true) (x 2)))) (s [(6,ix 1 (x 18)),(5,
 ix 0 (x 18))])) (q (.cond (b .neq (x 6) (i 0)) (q (s [(4,x 6),(3,.cst (.slice none 0 0))]) .ret) .skip) (q (s [(7,b .add (n1 .len (x 1)) (ld (fa 3 (x
 2))))]) (q (q (h 19 (.mkSl [.int .i64 0]) (c2 (x 7) (x 7))) (s [(8,x 19)])) (q (q (s [(22,i 0),(21,n1 .len (x 1)),(20,x 1)]) (.block 0 (.loop (q (.cond
 (b .lss (x 22) (x 21)) .skip (.exit 0)) (q (.block 1 (q (s [(10,ld (n2 (.iAddr 1) (x 20) (x 22))),(9,x 22)]) (.hv [] [] [] none (.st 1) (c2 (n2 (.iAddr 1)
 (x 8) (b .sub (b .sub (x 7) (i 1)) (x 9))) (x 10))))) (s [(22,b .add (x 22) (i 1))])))))) (q (q (.hv [(25,x 5),(23,n1 (.ld 3 true) (fa 0 (x 2)))] [] []
 (some 24) (.call true) (c2 (.cst (.func (.func 38) #[] #[])) (x 8))) (q (cl 26 37 (c3 (x 23) (x 24) (x 25))) (.sets [(6,ix 2 (x 26)),(11,ix 1 (x 26))] [ix
 0 (x 26)]))) (q (.cond (b .neq (x 6) (i 0)) (q (s [(4,x 6),(3,.cst (.slice none 0 0))]) .ret) .skip) (q (q (h 27 (.mkSl [.int .i64 0]) (c2 (x 7) (x 7))) (s
 [(12,x 27)])) (q (.hv [] [] [] none (.cpy 1) (c2 (x 12) (x 1))) (q (q (s [(30,i 0),(29,n1 .len (x 11)),(28,x 11)]) (.block 2 (.loop (q (.cond (b .lss (x
 30) (x 29)) .skip (.exit 2)) (q (.block 3 (q (s [(14,ld (n2 (.iAddr 1) (x 28) (x 30))),(13,x 30)]) (q (q (.hv [(32,b .sub (b .sub (x 7) (i 1)) (x 13)),
 (31,x 12)] [] [] (some 33) (.call false) (c (.cst (.func (.func 39) #[] #[])) (c3 (n1 (.ld 3 true) (fa 0 (x 2))) (i 0) (x 14)))) (q (.hv [(34,ix 1 (x 33))]
 [] [] none (.st 1) (c2 (n2 (.iAddr 1) (x 31) (x 32)) (ix 0 (x 33)))) (s [(6,x 34)]))) (.cond (b .neq (x 6) (i 0)) (q (s [(4,x 6),(3,.cst (.slice none 0
 0))]) .ret) .skip)))) (s [(30,b .add (x 30) (i 1))])))))) (q (s [(4,i 0),(3,x 12)]) .ret)))))))))))))
def cf16:CF:=⟨2,35,[(.var 3),(.var 4)],bd16⟩
def tr16:List Nat:=[0,1,2,4,5,6,7,8,9,10,11,13,14,15,16,19,24,31,36,48,49,50,51,66,68,69,70,78,82,83,84,90,94,98,100]
def bd17:Stm:=
 q (s [(1,.cst (.slice none 0 0))]) (q (s [(3,i 0),(2,i 0)]) (q (q (s [(10,i 0),(9,n1 .len (x 0)),(8,x 0)]) (.block 0 (.loop (q (.cond (b .lss (x 10) (x
 9)) .skip (.exit 0)) (q (.block 1 (q (s [(4,ld (n2 (.iAddr 1) (x 8) (x 10)))]) (q (s [(2,n2 (.minmax true) (x 2) (n1 .len (x 4)))]) (s [(3,b .add (x 3) (n1
 .len (x 4)))])))) (s [(10,b .add (x 10) (i 1))])))))) (q (q (h 11 (.mkSl [.int .i64 0]) (c2 (i 0) (x 3))) (s [(5,x 11)])) (q (q (s [(13,i 0),(12,x 2)])
 (.block 2 (.loop (q (.cond (b .lss (x 13) (x 12)) .skip (.exit 2)) (q (.block 3 (q (s [(6,x 13)]) (q (s [(16,i 0),(15,n1 .len (x 0)),(14,x 0)]) (.block
 4 (.loop (q (.cond (b .lss (x 16) (x 15)) .skip (.exit 4)) (q (.block 5 (q (s [(7,ld (n2 (.iAddr 1) (x 14) (x 16)))]) (.cond (b .lss (x 6) (n1 .len (x 7)))
 (q (.hv [(17,x 5)] [] [] (some 18) (.bSl [.int .i64 0] 1 [0]) (c1 (ld (n2 (.iAddr 1) (x 7) (x 6))))) (q (h 19 (.app 1 [.int .i64 0]) (c2 (x 17) (x 18))) (s
 [(5,x 19)]))) .skip))) (s [(16,b .add (x 16) (i 1))])))))))) (s [(13,b .add (x 13) (i 1))])))))) (q (s [(1,x 5)]) .ret)))))
def cf17:CF:=⟨1,20,[(.var 1)],bd17⟩
def tr17:List Nat:=[0,2,3,4,6,7,8,10,11,12,13,27,28,29,32,33,34,42,47,48]
def bd18:Stm:=
 q (s [(4,i 0),(3,.cst (.slice none 0 0))]) (q (q (cl 12 19 (c2 (x 1) (x 2))) (q (.hv [(14,ix 1 (x 12)),(13,ix 0 (x 12))] [] [] (some 5) (.alloc [.int .i64
 0,.int .i64 0,.int .i64 0,.int .i64 0]) .nil) (q (.hv [] [] [] none (.st 4) (c2 (x 5) (x 13))) (s [(6,x 14)])))) (q (.cond (b .neq (x 6) (i 0)) (q (s [(4,
 x 6),(3,.cst (.slice none 0 0))]) .ret) .skip) (q (.cond (b .neq (n1 .len (x 0)) (b .add (b .mul (ld (fa 0 (x 5))) (ld (fa 2 (x 5)))) (b .mul (ld (fa 1 (x
 5))) (b .add (ld (fa 2 (x 5))) (i 1))))) (q (s [(4,i 7),(3,.cst (.slice none 0 0))]) .ret) .skip) (q (q (cl 15 24 (c2 (x 0) (.cst (.slice none 0 0))))
 (.cond (n1 (.un .not) (x 15)) (q (s [(4,i 3),(3,.cst (.slice none 0 0))]) .ret) .skip)) (q (s [(7,.cst (.slice none 0 0))]) (q (s [(8,i 0)]) (q (q (s
 [(9,i 0)]) (.block 0 (.loop (q (.cond (b .lss (x 9) (b .add (ld (fa 0 (x 5))) (ld (fa 1 (x 5))))) .skip (.exit 0)) (q (.block 1 (q (s [(10,ld (fa 2 (x
 5)))]) (q (.cond (b .geq (x 9) (ld (fa 0 (x 5)))) (s [(10,b .add (x 10) (i 1))]) .skip) (q (s [(11,.cst (.slice none 0 0))]) (q (q (h 16 (.app 1 [.int .i64
 0]) (c2 (x 11) (.node (.sl 1 true true false) (c3 (x 0) (x 8) (b .add (x 8) (x 10)))))) (s [(11,x 16)])) (q (q (.hv [(17,x 7)] [] [] (some 18) (.bSl [.slice
 none 0 0] 1 [0]) (c1 (x 11))) (q (h 19 (.app 1 [.slice none 0 0]) (c2 (x 17) (x 18))) (s [(7,x 19)]))) (s [(8,b .add (x 8) (x 10))]))))))) (s [(9,b .add (x
 9) (i 1))])))))) (q (s [(4,i 0),(3,x 7)]) .ret))))))))
def cf18:CF:=⟨3,20,[(.var 3),(.var 4)],bd18⟩
def tr18:List Nat:=[0,1,2,6,7,8,9,10,11,12,13,14,18,19,20,40,66,67,69,70]
def bd19:Stm:=
 q (q (h 2 (.alloc [.int .i64 0,.int .i64 0,.int .i64 0,.int .i64 0]) .nil) (s [(3,i 0)])) (q (q (q (cl 8 40 (c2 (x 0) (x 1))) (s [(4,x 8)])) (.cond (b .neq
 (x 4) (i 0)) (q (q (.hv [(9,x 4)] [] [] none (.st 4) (c2 (x 2) (.node (.build [.int .i64 0,.int .i64 0,.int .i64 0,.int .i64 0] []) .nil))) (s [(3,x
 9)])) .ret) .skip)) (q (q (.hv [(15,b .sub (x 0) (i 1)),(13,x 1),(11,b .sub (x 0) (i 1))] [] [] (some 10) (.call false) (c2 (.cst (.func (.func 41) #[]
 #[])) (x 1))) (q (.hv [(12,ld (n2 (.iAddr 1) (x 10) (x 11)))] [] [] (some 14) (.call true) (c2 (.cst (.func (.func 42) #[] #[])) (x 13))) (s [(6,ld (n2
 (.iAddr 1) (x 14) (x 15))),(5,x 12)]))) (q (q (cl 16 43 .nil) (s [(7,b .sub (ld (n2 (.iAddr 1) (x 16) (b .sub (x 0) (i 1)))) (b .mul (x 5) (x 6)))])) (q (q
 (.hv [] [] [] none (.st 4) (c2 (x 2) (.node (.build [.int .i64 0,.int .i64 0,.int .i64 0,.int .i64 0] [(0,1),(1,1),(2,1),(3,1)]) (c (b .sub (x 5) (b
 .rem (x 7) (x 5))) (c3 (b .rem (x 7) (x 5)) (b .quo (x 7) (x 5)) (x 6)))))) (s [(3,i 0)])) .ret))))
def cf19:CF:=⟨2,17,[(.node (.ld 4 true) (.cons (.var 2) .nil)),(.var 3)],bd19⟩
def tr19:List Nat:=[0,1,4,5,6,7,8,9,12,16,18,20,22,23,24,26,29]
def bd20:Stm:=
 q (q (h 2 .box (c1 (x 0))) (s [(4,i 0),(3,.cst (.slice none 0 0))])) (q (q (cl 13 44 (c1 (n1 (.ld 5 true) (x 2)))) (q (.hv [(14,n1 (.un .not) (x 13))] []
 [(n1 (.un .not) (x 13),false)] (some 15) (.call false) (c3 (.cst (.func (.func 45) #[] #[])) (n1 (.ld 3 true) (fa 0 (x 2))) (x 1))) (.cond (p (x 14) (.cst
 (.bool true)) (n1 (.un .not) (x 15))) (q (s [(4,i 1),(3,.cst (.slice none 0 0))]) .ret) .skip))) (q (.cond (p (b .lss (n1 .len (x 1)) (i 1)) (.cst (.bool
 true)) (b .gtr (n1 .len (x 1)) (b .sub (b .sub (ld (fa 1 (fa 0 (x 2)))) (i 1)) (ld (fa 3 (x 2)))))) (q (s [(4,i 7),(3,.cst (.slice none 0 0))]) .ret)
 .skip) (q (q (cl 16 46 (c1 (n1 (.ld 5 true) (x 2)))) (s [(5,x 16)])) (q (s [(6,.cst (.slice none 0 0))]) (q (q (h 17 (.app 1 [.int .i64 0]) (c2 (x 6) (x
 1))) (s [(6,x 17)])) (q (q (h 18 (.mkSl [.int .i64 0]) (c2 (ld (fa 3 (x 2))) (ld (fa 3 (x 2))))) (s [(7,x 18)])) (q (q (s [(8,i 0)]) (.block 0 (.loop (q
 (.cond (b .lss (x 8) (n1 .len (x 1))) .skip (.exit 0)) (q (.block 1 (q (q (cl 19 47 (c3 (n1 (.ld 3 true) (fa 0 (x 2))) (ld (n2 (.iAddr 1) (x 1) (x 8))) (ld
 (n2 (.iAddr 1) (x 7) (i 0))))) (s [(9,x 19)])) (q (s [(10,i 0)]) (.block 2 (.loop (q (.cond (b .lss (x 10) (ld (fa 3 (x 2)))) .skip (.exit 2)) (q (.block 3
 (q (s [(11,i 0)]) (q (.cond (b .lss (b .add (x 10) (i 1)) (ld (fa 3 (x 2)))) (s [(11,ld (n2 (.iAddr 1) (x 7) (b .add (x 10) (i 1))))]) .skip) (q (.hv [(23,
 x 11),(22,n1 (.ld 3 true) (fa 0 (x 2))),(21,x 10),(20,x 7)] [] [] (some 24) (.call true) (c (.cst (.func (.func 49) #[] #[])) (c3 (n1 (.ld 3 true) (fa 0
 (x 2))) (x 9) (ld (n2 (.iAddr 1) (x 5) (b .sub (b .sub (ld (fa 3 (x 2))) (i 1)) (x 10))))))) (q (cl 25 48 (c3 (x 22) (x 23) (x 24))) (.hv [] [] [] none (.st
 1) (c2 (n2 (.iAddr 1) (x 20) (x 21)) (x 25)))))))) (s [(10,b .add (x 10) (i 1))])))))))) (s [(8,b .add (x 8) (i 1))])))))) (q (q (s [(12,i 0)]) (.block 4
 (.loop (q (.cond (b .lss (x 12) (ld (fa 3 (x 2)))) .skip (.exit 4)) (q (.block 5 (q (.hv [(26,x 6)] [] [] (some 27) (.call false) (c (.cst (.func (.func 48)
 #[] #[])) (c3 (n1 (.ld 3 true) (fa 0 (x 2))) (i 0) (ld (n2 (.iAddr 1) (x 7) (x 12)))))) (q (h 28 (.bSl [.int .i64 0] 1 [0]) (c1 (x 27))) (q (h 29 (.app 1
 [.int .i64 0]) (c2 (x 26) (x 28))) (s [(6,x 29)]))))) (s [(12,b .add (x 12) (i 1))])))))) (q (s [(4,i 0),(3,x 6)]) .ret)))))))))
def cf20:CF:=⟨2,30,[(.var 3),(.var 4)],bd20⟩
def tr20:List Nat:=[0,1,2,4,5,6,7,8,9,10,11,12,13,15,17,21,40,43,46,62,79,80,82,83,95,96,104,111,112,113]
def bd21:Stm:=
 q (h 1 (.alloc [.int .i64 0,.int .i64 0,.int .i64 0,.int .i64 0,.int .i64 0]) .nil) (q (q (cl 3 50 (c3 (.node (.build [.int .i64 0,.int .i64 0,.int .i64
 0] [(0,1),(1,1),(2,1)]) (c3 (i 2) (i 256) (i 285))) (x 0) (i 0))) (q (.hv [(5,ix 1 (x 3)),(4,ix 0 (x 3))] [] [] (some 2) (.alloc [.int .i64 0,.int
 .i64 0,.int .i64 0,.int .i64 0,.int .i64 0]) .nil) (q (.hv [] [] [] none (.st 5) (c2 (x 2) (x 4))) (.sets [] [x 5])))) (q (.hv [] [] [] none (.st 5) (c2 (x
 1) (n1 (.ld 5 true) (x 2)))) .ret))
def cf21:CF:=⟨1,6,[(.node (.ld 5 true) (.cons (.var 1) .nil))],bd21⟩
def tr21:List Nat:=[0,2,3,8,9,10]
def bd22:Stm:=
 q (s [(3,i 0),(2,.cst (.slice none 0 0))]) (q (q (cl 12 19 (c2 (x 0) (x 1))) (q (.hv [(14,ix 1 (x 12)),(13,ix 0 (x 12))] [] [] (some 4) (.alloc [.int .i64
 0,.int .i64 0,.int .i64 0,.int .i64 0]) .nil) (q (.hv [] [] [] none (.st 4) (c2 (x 4) (x 13))) (s [(5,x 14)])))) (q (.cond (b .neq (x 5) (i 0)) (q (s [(3,
 x 5),(2,.cst (.slice none 0 0))]) .ret) .skip) (q (s [(6,.cst (.slice none 0 0))]) (q (q (s [(7,i 0)]) (.block 0 (.loop (q (.cond (b .leq (x 7) (ld (fa 2
 (x 4)))) .skip (.exit 0)) (q (.block 1 (q (s [(8,i 0)]) (.block 2 (.loop (q (.cond (b .lss (x 8) (b .add (ld (fa 0 (x 4))) (ld (fa 1 (x 4))))) .skip (.exit
 2)) (q (.block 3 (.cond (p (b .lss (x 7) (ld (fa 2 (x 4)))) (.cst (.bool true)) (b .geq (x 8) (ld (fa 0 (x 4))))) (q (.hv [(15,x 6)] [] [] (some 16) (.bSl
 [.int .i64 0,.int .i64 0] 1 [0]) (c1 (n2 (.build [.int .i64 0,.int .i64 0] [(0,1),(1,1)]) (x 8) (x 7)))) (q (h 17 (.app 2 [.int .i64 0,.int .i64 0]) (c2
 (x 15) (x 16))) (s [(6,x 17)]))) .skip)) (s [(8,b .add (x 8) (i 1))]))))))) (s [(7,b .add (x 7) (i 1))])))))) (q (q (s [(9,i 0)]) (.block 4 (.loop (q
 (.cond (b .lss (x 9) (ld (fa 3 (x 4)))) .skip (.exit 4)) (q (.block 5 (q (s [(10,i 0)]) (.block 6 (.loop (q (.cond (b .lss (x 10) (b .add (ld (fa 0 (x 4)))
 (ld (fa 1 (x 4))))) .skip (.exit 6)) (q (.block 7 (q (q (.hv [(18,n2 (.build [.int .i64 0,.int .i64 0] [(0,1),(1,1)]) (x 10) (b .add (ld (fa 2 (x 4))) (x
 9)))] [] [] (some 11) (.alloc [.int .i64 0,.int .i64 0]) .nil) (.hv [] [] [] none (.st 2) (c2 (x 11) (x 18)))) (q (.cond (b .geq (x 10) (ld (fa 0 (x 4))))
 (.hv [] [] [] none (.st 1) (c2 (fa 1 (x 11)) (b .add (ld (fa 1 (x 11))) (i 1)))) .skip) (q (.hv [(19,x 6)] [] [] (some 20) (.bSl [.int .i64 0,.int .i64 0] 1
 [0]) (c1 (n1 (.ld 2 true) (x 11)))) (q (h 21 (.app 2 [.int .i64 0,.int .i64 0]) (c2 (x 19) (x 20))) (s [(6,x 21)])))))) (s [(10,b .add (x 10) (i
 1))]))))))) (s [(9,b .add (x 9) (i 1))])))))) (q (s [(3,i 0),(2,x 6)]) .ret))))))
def cf22:CF:=⟨2,22,[(.var 2),(.var 3)],bd22⟩
def tr22:List Nat:=[0,1,4,5,6,7,8,9,10,11,12,13,17,18,19,48,52,53,74,83,85,86]
def bd23:Stm:=
 q (q (h 4 .box (c1 (x 3))) (s [(7,i 0),(6,.cst (.slice none 0 0)),(5,.cst (.slice none 0 0))])) (q (q (cl 22 27 (c1 (n1 (.ld 4 true) (x 4)))) (s [(8,x
 22)])) (q (q (h 23 (.mkSl [.slice none 0 0]) (c2 (n1 .len (x 8)) (n1 .len (x 8)))) (s [(9,x 23)])) (q (q (h 24 (.mkSl [.slice none 0 0]) (c2 (n1 .len (x 8))
 (n1 .len (x 8)))) (s [(10,x 24)])) (q (q (s [(27,i 0),(26,n1 .len (x 8)),(25,x 8)]) (.block 0 (.loop (q (.cond (b .lss (x 27) (x 26)) .skip (.exit 0))
 (q (.block 1 (q (s [(12,ld (n2 (.iAddr 1) (x 25) (x 27))),(11,x 27)]) (q (.hv [(29,x 11),(28,x 9)] [] [] (some 30) (.mkSl [.int .i64 0]) (c2 (b .add (x
 12) (ld (fa 3 (x 4)))) (b .add (x 12) (ld (fa 3 (x 4)))))) (.hv [] [] [] none (.st 1) (c2 (n2 (.iAddr 1) (x 28) (x 29)) (x 30)))))) (s [(27,b .add (x 27) (i
 1))])))))) (q (q (s [(33,i 0),(32,n1 .len (x 2)),(31,x 2)]) (.block 2 (.loop (q (.cond (b .lss (x 33) (x 32)) .skip (.exit 2)) (q (.block 3 (q (q (.hv
 [(35,n1 (.ld 2 true) (n2 (.iAddr 2) (x 31) (x 33))),(34,x 33)] [] [] (some 14) (.alloc [.int .i64 0,.int .i64 0]) .nil) (.hv [(13,x 34)] [] [] none (.st
 2) (c2 (x 14) (x 35)))) (.cond (ld (n2 (.iAddr 1) (x 1) (x 13))) (q (.hv [(39,ld (n2 (.iAddr 1) (x 10) (ld (fa 0 (x 14))))),(38,ld (fa 0 (x 14))),(37,fa
 0 (x 14)),(36,x 10)] [] [] (some 40) (.bSl [.int .i64 0] 1 [0]) (c1 (ld (fa 1 (x 14))))) (q (h 41 (.app 1 [.int .i64 0]) (c2 (x 39) (x 40))) (q (.hv [] []
 [] none (.st 1) (c2 (n2 (.iAddr 1) (x 36) (x 38)) (x 41))) (.dist (x 39) (x 37))))) (.hv [] [] [] none (.st 1) (c2 (n2 (.iAddr 1) (ld (n2 (.iAddr 1) (x 9) (ld
 (fa 0 (x 14))))) (ld (fa 1 (x 14)))) (ld (n2 (.iAddr 1) (x 0) (x 13)))))))) (s [(33,b .add (x 33) (i 1))])))))) (q (q (cl 42 15 (c1 (ld (fa 3 (x 4))))) (q
 (.hv [(44,ix 1 (x 42)),(43,ix 0 (x 42))] [] [] (some 15) (.alloc [.int .i64 0,.int .i64 0,.int .i64 0,.int .i64 0,.int .i64 0]) .nil) (q (.hv [] [] []
 none (.st 5) (c2 (x 15) (x 43))) (s [(16,x 44)])))) (q (.cond (b .neq (x 16) (i 0)) (q (s [(7,x 16),(6,.cst (.slice none 0 0)),(5,.cst (.slice none 0
 0))]) .ret) .skip) (q (s [(17,.cst (.slice none 0 0))]) (q (q (s [(47,i 0),(46,n1 .len (x 8)),(45,x 8)]) (.block 4 (.loop (q (.cond (b .lss (x 47) (x
 46)) .skip (.exit 4)) (q (.block 5 (q (s [(19,ld (n2 (.iAddr 1) (x 45) (x 47))),(18,x 47)]) (q (q (cl 48 51 (c3 (n1 (.ld 5 true) (x 15)) (ld (n2 (.iAddr 1)
 (x 9) (x 18))) (ld (n2 (.iAddr 1) (x 10) (x 18))))) (q (.hv [(50,ix 1 (x 48)),(49,ix 0 (x 48))] [] [] (some 20) (.alloc [.slice none 0 0,.slice none 0 0])
 .nil) (q (.hv [] [] [] none (.st 2) (c2 (x 20) (x 49))) (s [(21,x 50)])))) (q (.cond (b .neq (x 21) (i 0)) (q (s [(7,i 17),(6,.cst (.slice none 0 0)),(5,
 .cst (.slice none 0 0))]) .ret) .skip) (q (.hv [] [] [] none (.st 1) (c2 (n2 (.iAddr 1) (x 9) (x 18)) (ld (fa 0 (x 20))))) (q (h 51 (.app 1 [.int .i64 0]) (c2
 (x 17) (n2 (.sl 1 false true false) (ld (fa 0 (x 20))) (x 19)))) (s [(17,x 51)]))))))) (s [(47,b .add (x 47) (i 1))])))))) (q (s [(7,i 0),(6,x 9),(5,x
 17)]) .ret))))))))))
def cf23:CF:=⟨4,52,[(.var 5),(.var 6),(.var 7)],bd23⟩
def tr23:List Nat:=[0,1,2,3,7,8,9,10,11,12,13,14,15,16,17,18,19,20,21,22,23,24,26,29,32,33,34,35,40,41,46,49,50,51,53,55,60,61,62,67,70,71,89,90,91,95,96,97,112,113,114,127]
def bd24:Stm:=
 q (s [(2,.cst (.bool false))]) (q (q (s [(3,i 0)]) (.block 0 (.loop (q (.cond (b .lss (x 3) (n1 .len (x 0))) .skip (.exit 0)) (q (.block 1 (.cond (p (p (b
 .lss (ld (n2 (.iAddr 1) (x 0) (x 3))) (i 0)) (.cst (.bool true)) (b .gtr (ld (n2 (.iAddr 1) (x 0) (x 3))) (i 255))) (p (b .eql (n1 .len (x 1)) (i 0)) (.cst
 (.bool true)) (n1 (.un .not) (ld (n2 (.iAddr 1) (x 1) (x 3))))) (.cst (.bool false))) (q (s [(2,.cst (.bool false))]) .ret) .skip)) (s [(3,b .add (x 3) (i
 1))])))))) (q (s [(2,.cst (.bool true))]) .ret))
def cf24:CF:=⟨2,4,[(.var 2)],bd24⟩
def tr24:List Nat:=[0,1,4,5]
def bd25:Stm:=
 q (s [(7,.cst (.slice none 0 0)),(6,.cst (.slice none 0 0)),(5,.cst (.slice none 0 0))]) (q (s [(10,.cst (.slice none 0 0)),(9,.cst (.slice none 0 0)),
 (8,.cst (.slice none 0 0))]) (q (q (s [(11,i 0)]) (.block 0 (.loop (q (.cond (b .lss (x 11) (x 4)) .skip (.exit 0)) (q (.block 1 (q (q (.hv [(13,x 8)] []
 [] (some 14) (.bSl [.int .i64 0] 1 [0]) (c1 (i 0))) (q (h 15 (.app 1 [.int .i64 0]) (c2 (x 13) (x 14))) (s [(8,x 15)]))) (q (.hv [(16,x 10)] [] [] (some 17)
 (.bSl [.int .i64 0] 1 [0]) (c1 (i 0))) (q (h 18 (.app 1 [.int .i64 0]) (c2 (x 16) (x 17))) (s [(10,x 18)]))))) (s [(11,b .add (x 11) (i 1))])))))) (q (q (s
 [(12,i 0)]) (.block 2 (.loop (q (.cond (b .lss (x 12) (n1 .len (x 2))) .skip (.exit 2)) (q (.block 3 (.cond (b .eql (ld (fa 0 (n2 (.iAddr 2) (x 2) (x 12))))
 (x 3)) (q (.hv [] [] [] none (.st 1) (c2 (n2 (.iAddr 1) (x 10) (ld (fa 1 (n2 (.iAddr 2) (x 2) (x 12))))) (x 12))) (.cond (p (b .gtr (n1 .len (x 1)) (i 0)) (ld
 (n2 (.iAddr 1) (x 1) (x 12))) (.cst (.bool false))) (q (.hv [(19,x 9)] [] [] (some 20) (.bSl [.int .i64 0] 1 [0]) (c1 (ld (fa 1 (n2 (.iAddr 2) (x 2) (x
 12)))))) (q (h 21 (.app 1 [.int .i64 0]) (c2 (x 19) (x 20))) (s [(9,x 21)]))) (.hv [] [] [] none (.st 1) (c2 (n2 (.iAddr 1) (x 8) (ld (fa 1 (n2 (.iAddr 2) (x
 2) (x 12))))) (ld (n2 (.iAddr 1) (x 0) (x 12))))))) .skip)) (s [(12,b .add (x 12) (i 1))])))))) (q (s [(7,x 10),(6,x 9),(5,x 8)]) .ret))))
def cf25:CF:=⟨5,22,[(.var 5),(.var 6),(.var 7)],bd25⟩
def tr25:List Nat:=[0,1,2,3,4,10,11,12,13,14,15,16,17,23,24,25,26,27,28,59,65,66]
def bd26:Stm:=
 q (q (h 3 .box (c1 (x 0))) (q (h 4 (.alloc [.slice none 0 0,.slice none 0 0]) .nil) (s [(5,i 0)]))) (q (q (cl 9 44 (c1 (n1 (.ld 5 true) (x 3)))) (q (.hv [(10,
 n1 (.un .not) (x 9))] [] [(n1 (.un .not) (x 9),false)] (some 11) (.call false) (c3 (.cst (.func (.func 45) #[] #[])) (n1 (.ld 3 true) (fa 0 (x 3))) (x 1)))
 (.cond (p (x 10) (.cst (.bool true)) (n1 (.un .not) (x 11))) (q (q (.hv [] [] [] none (.st 2) (c2 (x 4) (.node (.build [.slice none 0 0,.slice none 0 0] [])
 .nil))) (s [(5,i 1)])) .ret) .skip))) (q (q (s [(6,i 0)]) (.block 0 (.loop (q (.cond (b .lss (x 6) (n1 .len (x 2))) .skip (.exit 0)) (q (.block 1 (.cond (p
 (b .lss (ld (n2 (.iAddr 1) (x 2) (x 6))) (i 0)) (.cst (.bool true)) (b .geq (ld (n2 (.iAddr 1) (x 2) (x 6))) (n1 .len (x 1)))) (q (q (.hv [] [] [] none (.st
 2) (c2 (x 4) (.node (.build [.slice none 0 0,.slice none 0 0] []) .nil))) (s [(5,i 1)])) .ret) .skip)) (s [(6,b .add (x 6) (i 1))])))))) (q (.cond (p (b
 .leq (n1 .len (x 1)) (ld (fa 3 (x 3)))) (.cst (.bool true)) (b .gtr (n1 .len (x 1)) (b .sub (ld (fa 1 (fa 0 (x 3)))) (i 1)))) (q (q (.hv [] [] [] none (.st 2)
 (c2 (x 4) (.node (.build [.slice none 0 0,.slice none 0 0] []) .nil))) (s [(5,i 7)])) .ret) .skip) (q (q (cl 12 52 (c2 (n1 .len (x 1)) (x 2))) (s [(8,ix 1
 (x 12)),(7,ix 0 (x 12))])) (q (.cond (b .gtr (x 8) (ld (fa 3 (x 3)))) (q (q (.hv [] [] [] none (.st 2) (c2 (x 4) (.node (.build [.slice none 0 0,.slice
 none 0 0] []) .nil))) (s [(5,i 17)])) .ret) .skip) (q (q (cl 13 53 (c (n1 (.ld 5 true) (x 3)) (c3 (x 1) (x 7) (x 8)))) (q (.hv [(14,ix 1 (x 13))] [] [] none
 (.st 2) (c2 (x 4) (ix 0 (x 13)))) (s [(5,x 14)]))) .ret))))))
def cf26:CF:=⟨3,15,[(.node (.ld 2 true) (.cons (.var 4) .nil)),(.var 5)],bd26⟩
def tr26:List Nat:=[0,1,2,3,6,7,8,9,10,12,14,18,62,74,76]
def bd27:Stm:=
 q (q (h 1 .box (c1 (x 0))) (s [(2,.cst (.slice none 0 0))])) (q (q (h 5 (.mkSl [.int .i64 0]) (c2 (b .add (ld (fa 0 (x 1))) (ld (fa 1 (x 1)))) (b .add (ld (fa
 0 (x 1))) (ld (fa 1 (x 1)))))) (s [(3,x 5)])) (q (q (s [(7,i 0),(6,n1 .len (x 3))]) (.block 0 (.loop (q (.cond (b .lss (x 7) (x 6)) .skip (.exit 0)) (q
 (.block 1 (q (s [(4,x 7)]) (q (.hv [] [] [] none (.st 1) (c2 (n2 (.iAddr 1) (x 3) (x 4)) (ld (fa 2 (x 1))))) (.cond (b .geq (x 4) (ld (fa 0 (x 1)))) (.hv []
 [] [] none (.st 1) (c2 (n2 (.iAddr 1) (x 3) (x 4)) (b .add (ld (n2 (.iAddr 1) (x 3) (x 4))) (i 1)))) .skip)))) (s [(7,b .add (x 7) (i 1))])))))) (q (s [(2,x
 3)]) .ret)))
def cf27:CF:=⟨1,8,[(.var 2)],bd27⟩
def tr27:List Nat:=[0,1,2,3,4,10,12,13]
def bd28:Stm:=
 q (s [(3,.cst (.slice none 0 0))]) (q (q (h 6 (.mkSl [.int .i64 0,.int .i64 0]) (c2 (x 2) (x 2))) (s [(4,x 6)])) (q (q (s [(8,i 0),(7,n1 .len (x 4))])
 (.block 0 (.loop (q (.cond (b .lss (x 8) (x 7)) .skip (.exit 0)) (q (.block 1 (q (s [(5,x 8)]) (.hv [] [] [] none (.st 2) (c2 (n2 (.iAddr 2) (x 4) (x 5)) (n2
 (.build [.int .i64 0,.int .i64 0] [(0,1),(1,1)]) (x 0) (b .add (x 1) (x 5))))))) (s [(8,b .add (x 8) (i 1))])))))) (q (s [(3,x 4)]) .ret)))
def cf28:CF:=⟨3,9,[(.var 3)],bd28⟩
def tr28:List Nat:=[0,1,2,6,7,8,10,12,13]
def bd29:Stm:=
 q (s [(1,.cst (.slice none 0 0))]) (q (s [(3,i 0),(2,i 0)]) (q (q (s [(10,i 0),(9,n1 .len (x 0)),(8,x 0)]) (.block 0 (.loop (q (.cond (b .lss (x 10) (x
 9)) .skip (.exit 0)) (q (.block 1 (q (s [(4,ld (n2 (.iAddr 1) (x 8) (x 10)))]) (q (s [(2,n2 (.minmax true) (x 2) (n1 .len (x 4)))]) (s [(3,b .add (x 3) (n1
 .len (x 4)))])))) (s [(10,b .add (x 10) (i 1))])))))) (q (q (h 11 (.mkSl [.int .i64 0,.int .i64 0]) (c2 (i 0) (x 3))) (s [(5,x 11)])) (q (q (s [(13,i 0),
 (12,x 2)]) (.block 2 (.loop (q (.cond (b .lss (x 13) (x 12)) .skip (.exit 2)) (q (.block 3 (q (s [(6,x 13)]) (q (s [(16,i 0),(15,n1 .len (x 0)),(14,x
 0)]) (.block 4 (.loop (q (.cond (b .lss (x 16) (x 15)) .skip (.exit 4)) (q (.block 5 (q (s [(7,ld (n2 (.iAddr 1) (x 14) (x 16)))]) (.cond (b .lss (x 6) (n1
 .len (x 7))) (q (.hv [(17,x 5)] [] [] (some 18) (.bSl [.int .i64 0,.int .i64 0] 1 [0]) (c1 (n1 (.ld 2 true) (n2 (.iAddr 2) (x 7) (x 6))))) (q (h 19 (.app 2
 [.int .i64 0,.int .i64 0]) (c2 (x 17) (x 18))) (s [(5,x 19)]))) .skip))) (s [(16,b .add (x 16) (i 1))])))))))) (s [(13,b .add (x 13) (i 1))])))))) (q (s
 [(1,x 5)]) .ret)))))
def cf29:CF:=⟨1,20,[(.var 1)],bd29⟩
def tr29:List Nat:=[0,2,3,4,6,7,8,10,11,12,13,27,28,29,32,33,34,42,47,48]
def bd30:Stm:=
 q (s [(3,i 0),(2,i 0)]) (q (q (cl 6 31 (c2 (x 0) (x 1))) (.sets [(5,ix 3 (x 6)),(4,ix 0 (x 6))] [ix 2 (x 6),ix 1 (x 6)])) (q (s [(3,x 5),(2,x 4)])
 .ret))
def cf30:CF:=⟨2,7,[(.var 2),(.var 3)],bd30⟩
def tr30:List Nat:=[0,1,4,5,6,9,13]
def bd31:Stm:=
 q (s [(5,i 0),(4,i 0),(3,i 0),(2,i 0)]) (q (q (cl 8 54 (c1 (x 0))) (.cond (n1 (.un .not) (x 8)) (q (s [(5,i 14),(4,i 0),(3,i 0),(2,i 0)]) .ret)
 .skip)) (q (.cond (p (b .lss (x 1) (i 1)) (.cst (.bool true)) (b .gtr (x 1) (i 4))) (q (s [(5,i 15),(4,i 0),(3,i 0),(2,i 0)]) .ret) .skip) (q (q (cl 9
 55 (c1 (x 0))) (q (h 6 (.alloc [.int .i64 0,.int .i64 0,.int .i64 0,.int .i64 0,.int .i64 0,.int .i64 0,.int .i64 0,.int .i64 0,.int .i64 0,.int .i64
 0]) .nil) (.hv [] [] [] none (.st 10) (c2 (x 6) (x 9))))) (q (s [(7,b .mul (i 2) (x 1))]) (q (s [(4,ld (n2 (.iAddrA 10 1) (x 6) (b .add (x 7) (i 1)))),(3,
 ld (n2 (.iAddrA 10 1) (x 6) (x 7)))]) (q (s [(5,i 0),(4,x 4),(3,x 3),(2,b .sub (ld (n2 (.iAddrA 10 1) (x 6) (i 0))) (b .mul (x 3) (x 4)))]) .ret))))))
def cf31:CF:=⟨2,10,[(.var 2),(.var 3),(.var 4),(.var 5)],bd31⟩
def tr31:List Nat:=[0,1,4,5,6,7,8,9,11,20]
def bd32:Stm:=
 q (q (h 2 (.alloc [.int .i64 0,.int .i64 0,.int .i64 0]) .nil) (s [(3,i 0)])) (q (.cond (p (b .lss (x 0) (i 1)) (.cst (.bool true)) (b .gtr (x 0) (i 12))) (q
 (q (.hv [] [] [] none (.st 3) (c2 (x 2) (.node (.build [.int .i64 0,.int .i64 0,.int .i64 0] []) .nil))) (s [(3,i 3)])) .ret) .skip) (q (q (.hv [(5,.node
 (.build [.int .i64 0,.int .i64 0,.int .i64 0] [(0,1),(1,1),(2,1)]) (c3 (i 2) (b .shl (i 1) (x 0)) (x 1)))] [] [] (some 4) (.alloc [.int .i64 0,.int
 .i64 0,.int .i64 0]) .nil) (.hv [] [] [] none (.st 3) (c2 (x 4) (x 5)))) (q (q (cl 6 56 (c1 (n1 (.ld 3 true) (x 4)))) (.cond (n1 (.un .not) (x 6)) (q (q (.hv
 [] [] [] none (.st 3) (c2 (x 2) (.node (.build [.int .i64 0,.int .i64 0,.int .i64 0] []) .nil))) (s [(3,i 38)])) .ret) .skip)) (q (q (.hv [] [] [] none
 (.st 3) (c2 (x 2) (n1 (.ld 3 true) (x 4)))) (s [(3,i 0)])) .ret))))
def cf32:CF:=⟨2,7,[(.node (.ld 3 true) (.cons (.var 2) .nil)),(.var 3)],bd32⟩
def tr32:List Nat:=[0,1,4,5,6,17,19]
def bd33:Stm:=
 q (q (h 3 .box (c1 (x 0))) (q (h 4 (.alloc [.int .i64 0,.int .i64 0,.int .i64 0,.int .i64 0,.int .i64 0]) .nil) (s [(5,i 0)]))) (q (q (cl 6 56 (c1 (n1 (.ld
 3 true) (x 3)))) (.cond (n1 (.un .not) (x 6)) (q (q (.hv [] [] [] none (.st 5) (c2 (x 4) (.node (.build [.int .i64 0,.int .i64 0,.int .i64 0,.int .i64 0,
 .int .i64 0] []) .nil))) (s [(5,i 1)])) .ret) .skip)) (q (q (cl 7 57 (c3 (n1 (.ld 3 true) (x 3)) (x 1) (x 2))) (.cond (n1 (.un .not) (x 7)) (q (q (.hv [] []
 [] none (.st 5) (c2 (x 4) (.node (.build [.int .i64 0,.int .i64 0,.int .i64 0,.int .i64 0,.int .i64 0] []) .nil))) (s [(5,i 3)])) .ret) .skip)) (q (q
 (.hv [] [] [] none (.st 5) (c2 (x 4) (.node (.build [.int .i64 0,.int .i64 0,.int .i64 0,.int .i64 0,.int .i64 0] [(0,3),(3,1),(4,1)]) (c3 (n1 (.ld 3
 true) (x 3)) (x 1) (x 2))))) (s [(5,i 0)])) .ret)))
def cf33:CF:=⟨3,8,[(.node (.ld 5 true) (.cons (.var 4) .nil)),(.var 5)],bd33⟩
def tr33:List Nat:=[0,1,2,3,6,7,9,15]
def bd34:Stm:=
 q (q (h 2 .box (c1 (x 0))) (s [(3,.cst (.bool false))])) (q (q (cl 4 56 (c1 (n1 (.ld 3 true) (fa 0 (x 2))))) (q (.hv [(5,x 4)] [] [(x 4,true)] (some 6)
 (.call false) (c (.cst (.func (.func 57) #[] #[])) (c3 (n1 (.ld 3 true) (fa 0 (x 2))) (ld (fa 3 (x 2))) (ld (fa 4 (x 2)))))) (q (.hv [(7,p (x 5) (x 6) (.cst
 (.bool false)))] [] [(p (x 5) (x 6) (.cst (.bool false)),true)] (some 8) (.call false) (c3 (.cst (.func (.func 58) #[] #[])) (n1 (.ld 3 true) (fa 0 (x 2)))
 (x 1))) (s [(3,p (x 7) (x 8) (.cst (.bool false)))])))) .ret)
def cf34:CF:=⟨2,9,[(.var 3)],bd34⟩
def tr34:List Nat:=[0,1,2,4,7,8,15,17,21]
def bd35:Stm:=
 q (q (h 2 .box (c1 (x 0))) (s [(3,.cst (.bool false))])) (q (s [(3,p (b .gtr (x 1) (ld (fa 3 (x 2)))) (b .lss (x 1) (ld (fa 1 (fa 0 (x 2))))) (.cst (.bool
 false)))]) .ret)
def cf35:CF:=⟨2,4,[(.var 3)],bd35⟩
def tr35:List Nat:=[0,1,2,4]
def bd36:Stm:=
 q (q (h 1 .box (c1 (x 0))) (s [(3,i 0),(2,.cst (.slice none 0 0))])) (q (q (cl 7 34 (c2 (n1 (.ld 5 true) (x 1)) (.cst (.slice none 0 0)))) (.cond (n1 (.un
 .not) (x 7)) (q (s [(3,i 1),(2,.cst (.slice none 0 0))]) .ret) .skip)) (q (q (cl 8 59 (c1 (n1 (.ld 3 true) (fa 0 (x 1))))) (q (h 4 (.alloc [.int .i64 0,
 .int .i64 0,.slice none 0 0,.slice none 0 0]) .nil) (.hv [] [] [] none (.st 4) (c2 (x 4) (x 8))))) (q (q (h 9 (.mkSl [.int .i64 0]) (c2 (ld (fa 3 (x 1)))
 (ld (fa 3 (x 1))))) (s [(5,x 9)])) (q (q (s [(11,i 0),(10,n1 .len (x 5))]) (.block 0 (.loop (q (.cond (b .lss (x 11) (x 10)) .skip (.exit 0)) (q (.block 1
 (q (s [(6,x 11)]) (q (.hv [(13,x 6),(12,x 5)] [] [] (some 14) (.call false) (c3 (.cst (.func (.func 60) #[] #[])) (n1 (.ld 4 true) (x 4)) (b .add (ld (fa
 4 (x 1))) (x 6)))) (.hv [] [] [] none (.st 1) (c2 (n2 (.iAddr 1) (x 12) (x 13)) (x 14)))))) (s [(11,b .add (x 11) (i 1))])))))) (q (q (cl 15 61 (c2 (n1 (.ld
 3 true) (fa 0 (x 1))) (x 5))) (s [(3,ix 1 (x 15)),(2,ix 0 (x 15))])) .ret)))))
def cf36:CF:=⟨1,16,[(.var 2),(.var 3)],bd36⟩
def tr36:List Nat:=[0,1,2,3,4,5,6,8,12,15,17,18,21,22,28,34]
def bd37:Stm:=
 q (q (h 3 .box (c1 (x 0))) (s [(6,i 0),(5,.cst (.slice none 0 0)),(4,.cst (.slice none 0 0))])) (q (q (.hv [(7,n1 (.ld 3 true) (x 3))] [] [] (some 8)
 (.bSl [.slice none 0 0] 2 [0,1]) (c2 (x 1) (x 2))) (q (cl 9 62 (c2 (x 7) (x 8))) (.cond (n1 (.un .not) (x 9)) (q (s [(6,i 1),(5,.cst (.slice none 0 0)),
 (4,.cst (.slice none 0 0))]) .ret) .skip))) (q (.cond (b .eql (n1 .len (x 2)) (i 0)) (q (s [(6,i 12),(5,.cst (.slice none 0 0)),(4,.cst (.slice none 0
 0))]) .ret) .skip) (q (q (cl 10 63 (c1 (n1 (.ld 3 true) (x 3)))) (q (cl 11 64 (c3 (x 10) (x 1) (x 2))) (s [(5,ix 1 (x 11)),(4,ix 0 (x 11))]))) (q (s [(6,i
 0),(5,x 5),(4,x 4)]) .ret))))
def cf37:CF:=⟨3,12,[(.var 4),(.var 5),(.var 6)],bd37⟩
def tr37:List Nat:=[0,1,2,3,6,7,8,9,12,13,20,23]
def bd38:Stm:=
 q (s [(1,.cst (.slice none 0 0))]) (q (s [(2,n1 .len (x 0))]) (q (.block 0 (.loop (q (.cond (p (b .gtr (x 2) (i 0)) (b .eql (ld (n2 (.iAddr 1) (x 0) (b .sub
 (x 2) (i 1)))) (i 0)) (.cst (.bool false))) .skip (.exit 0)) (.block 1 (s [(2,b .sub (x 2) (i 1))]))))) (q (q (h 3 (.app 1 [.int .i64 0]) (c2 (.cst (.slice
 none 0 0)) (n2 (.sl 1 false true false) (x 0) (x 2)))) (s [(1,x 3)])) .ret)))
def cf38:CF:=⟨1,4,[(.var 1)],bd38⟩
def tr38:List Nat:=[0,2,3,21]
def bd39:Stm:=
 q (q (h 3 .box (c1 (x 0))) (s [(5,i 0),(4,i 0)])) (q (q (.hv [(6,n1 (.ld 3 true) (x 3))] [] [] (some 7) (.bSl [.int .i64 0] 2 [0,1]) (c2 (x 1) (x 2))) (q
 (cl 8 65 (c2 (x 6) (x 7))) (.cond (n1 (.un .not) (x 8)) (q (s [(5,i 1),(4,i 0)]) .ret) .skip))) (q (.cond (b .neq (ld (fa 2 (x 3))) (i 0)) (q (s [(5,i 0),
 (4,b .xor (x 1) (x 2))]) .ret) .skip) (q (s [(5,i 0),(4,b .rem (b .add (b .sub (x 1) (x 2)) (ld (fa 1 (x 3)))) (ld (fa 1 (x 3))))]) .ret)))
def cf39:CF:=⟨3,9,[(.var 4),(.var 5)],bd39⟩
def tr39:List Nat:=[0,1,2,3,6,7,8,11,12]
def bd40:Stm:=
 q (s [(2,i 0)]) (q (.cond (p (b .lss (x 0) (i 1)) (.cst (.bool true)) (b .gtr (x 0) (i 40))) (q (s [(2,i 14)]) .ret) .skip) (q (.cond (p (b .lss (x 1) (i 1))
 (.cst (.bool true)) (b .gtr (x 1) (i 4))) (q (s [(2,i 15)]) .ret) .skip) (q (s [(2,i 0)]) .ret)))
def cf40:CF:=⟨2,3,[(.var 2)],bd40⟩
def tr40:List Nat:=[0,1,4]
def bd41:Stm:=
 q (s [(1,.cst (.slice none 0 0))]) (q (q (s [(2,x 0)]) (.block 0 (.cond (b .eql (x 2) (i 1)) (q (q (h 3 (.bSl [.int .i64 0] 40 [0,1,2,3,4,5,6,7,8,9,
 10,11,12,13,14,15,16,17,18,19,20,21,22,23,24,25,26,27,28,29,30,31,32,33,34,35,36,37,38,39]) (c (i 1) (c (i 1) (c (i 1) (c (i 1)
 (c (i 1) (c (i 2) (c (i 2) (c (i 2) (c (i 2) (c (i 4) (c (i 4) (c (i 4) (c (i 4) (c (i 4) (c (i 6) (c (i 6) (c (i 6) (c (i 6) (c (i 7) (c (i 8) (c (i 8) (c (i
 9) (c (i 9) (c (i 10) (c (i 12) (c (i 12) (c (i 12) (c (i 13) (c (i 14) (c (i 15) (c (i 16) (c (i 17) (c (i 18) (c (i 19) (c (i 19) (c (i 20) (c (i 21) (c3 (i
 22) (i 24) (i 25)))))))))))))))))))))))))))))))))))))))) (s [(1,x 3)])) .ret) (.cond (b .eql (x 2) (i 2)) (q (q (h 4 (.bSl [.int .i64 0] 40 [0,1,2,3,4,
 5,6,7,8,9,10,11,12,13,14,15,16,17,18,19,20,21,22,23,24,25,26,27,28,29,30,31,32,33,34,35,36,37,38,39]) (c (i 1) (c (i 1) (c
 (i 1) (c (i 2) (c (i 2) (c (i 4) (c (i 4) (c (i 4) (c (i 5) (c (i 5) (c (i 5) (c (i 8) (c (i 9) (c (i 9) (c (i 10) (c (i 10) (c (i 11) (c (i 13) (c (i 14) (c
 (i 16) (c (i 17) (c (i 17) (c (i 18) (c (i 20) (c (i 21) (c (i 23) (c (i 25) (c (i 26) (c (i 28) (c (i 29) (c (i 31) (c (i 33) (c (i 35) (c (i 37) (c (i 38)
 (c (i 40) (c (i 43) (c3 (i 45) (i 47) (i 49)))))))))))))))))))))))))))))))))))))))) (s [(1,x 4)])) .ret) (.cond (b .eql (x 2) (i 3)) (q (q (h 5 (.bSl [.int
 .i64 0] 40 [0,1,2,3,4,5,6,7,8,9,10,11,12,13,14,15,16,17,18,19,20,21,22,23,24,25,26,27,28,29,30,31,32,33,34,35,36,37,38,
 39]) (c (i 1) (c (i 1) (c (i 2) (c (i 2) (c (i 4) (c (i 4) (c (i 6) (c (i 6) (c (i 8) (c (i 8) (c (i 8) (c (i 10) (c (i 12) (c (i 16) (c (i 12) (c (i 17) (c
 (i 16) (c (i 18) (c (i 21) (c (i 20) (c (i 23) (c (i 23) (c (i 25) (c (i 27) (c (i 29) (c (i 34) (c (i 34) (c (i 35) (c (i 38) (c (i 40) (c (i 43) (c (i 45)
 (c (i 48) (c (i 51) (c (i 53) (c (i 56) (c (i 59) (c3 (i 62) (i 65) (i 68)))))))))))))))))))))))))))))))))))))))) (s [(1,x 5)])) .ret) .skip))))) (q (q (h 6
 (.bSl [.int .i64 0] 40 [0,1,2,3,4,5,6,7,8,9,10,11,12,13,14,15,16,17,18,19,20,21,22,23,24,25,26,27,28,29,30,31,32,33,34,35,
 36,37,38,39]) (c (i 1) (c (i 1) (c (i 2) (c (i 4) (c (i 4) (c (i 4) (c (i 5) (c (i 6) (c (i 8) (c (i 8) (c (i 11) (c (i 11) (c (i 16) (c (i 16) (c (i 18)
 (c (i 16) (c (i 19) (c (i 21) (c (i 25) (c (i 25) (c (i 25) (c (i 34) (c (i 30) (c (i 32) (c (i 35) (c (i 37) (c (i 40) (c (i 42) (c (i 45) (c (i 48) (c (i
 51) (c (i 54) (c (i 57) (c (i 60) (c (i 63) (c (i 66) (c (i 70) (c3 (i 74) (i 77) (i 81)))))))))))))))))))))))))))))))))))))))) (s [(1,x 6)])) .ret))
def cf41:CF:=⟨1,7,[(.var 1)],bd41⟩
def tr41:List Nat:=[0,2,3,6,9,12,13]
def bd42:Stm:=
 q (s [(1,.cst (.slice none 0 0))]) (q (q (s [(2,x 0)]) (.block 0 (.cond (b .eql (x 2) (i 1)) (q (q (h 3 (.bSl [.int .i64 0] 40 [0,1,2,3,4,5,6,7,8,9,
 10,11,12,13,14,15,16,17,18,19,20,21,22,23,24,25,26,27,28,29,30,31,32,33,34,35,36,37,38,39]) (c (i 7) (c (i 10) (c (i 15) (c (i
 20) (c (i 26) (c (i 18) (c (i 20) (c (i 24) (c (i 30) (c (i 18) (c (i 20) (c (i 24) (c (i 26) (c (i 30) (c (i 22) (c (i 24) (c (i 28) (c (i 30) (c (i 28) (c
 (i 28) (c (i 28) (c (i 28) (c (i 30) (c (i 30) (c (i 26) (c (i 28) (c (i 30) (c (i 30) (c (i 30) (c (i 30) (c (i 30) (c (i 30) (c (i 30) (c (i 30) (c (i 30)
 (c (i 30) (c (i 30) (c3 (i 30) (i 30) (i 30)))))))))))))))))))))))))))))))))))))))) (s [(1,x 3)])) .ret) (.cond (b .eql (x 2) (i 2)) (q (q (h 4 (.bSl [.int
 .i64 0] 40 [0,1,2,3,4,5,6,7,8,9,10,11,12,13,14,15,16,17,18,19,20,21,22,23,24,25,26,27,28,29,30,31,32,33,34,35,36,37,38,
 39]) (c (i 10) (c (i 16) (c (i 26) (c (i 18) (c (i 24) (c (i 16) (c (i 18) (c (i 22) (c (i 22) (c (i 26) (c (i 30) (c (i 22) (c (i 22) (c (i 24) (c (i 24) (c
 (i 28) (c (i 28) (c (i 26) (c (i 26) (c (i 26) (c (i 26) (c (i 28) (c (i 28) (c (i 28) (c (i 28) (c (i 28) (c (i 28) (c (i 28) (c (i 28) (c (i 28) (c (i 28)
 (c (i 28) (c (i 28) (c (i 28) (c (i 28) (c (i 28) (c (i 28) (c3 (i 28) (i 28) (i 28)))))))))))))))))))))))))))))))))))))))) (s [(1,x 4)])) .ret) (.cond (b
 .eql (x 2) (i 3)) (q (q (h 5 (.bSl [.int .i64 0] 40 [0,1,2,3,4,5,6,7,8,9,10,11,12,13,14,15,16,17,18,19,20,21,22,23,24,25,26,27,28,
 29,30,31,32,33,34,35,36,37,38,39]) (c (i 13) (c (i 22) (c (i 18) (c (i 26) (c (i 18) (c (i 24) (c (i 18) (c (i 22) (c (i 20) (c (i 24) (c (i 28) (c
 (i 26) (c (i 24) (c (i 20) (c (i 30) (c (i 24) (c (i 28) (c (i 28) (c (i 26) (c (i 30) (c (i 28) (c (i 30) (c (i 30) (c (i 30) (c (i 30) (c (i 28) (c (i 30)
 (c (i 30) (c (i 30) (c (i 30) (c (i 30) (c (i 30) (c (i 30) (c (i 30) (c (i 30) (c (i 30) (c (i 30) (c3 (i 30) (i 30) (i
 30)))))))))))))))))))))))))))))))))))))))) (s [(1,x 5)])) .ret) .skip))))) (q (q (h 6 (.bSl [.int .i64 0] 40 [0,1,2,3,4,5,6,7,8,9,10,11,12,13,
 14,15,16,17,18,19,20,21,22,23,24,25,26,27,28,29,30,31,32,33,34,35,36,37,38,39]) (c (i 17) (c (i 28) (c (i 22) (c (i 16) (c (i 22) (c
 (i 28) (c (i 26) (c (i 26) (c (i 24) (c (i 28) (c (i 24) (c (i 28) (c (i 22) (c (i 24) (c (i 24) (c (i 30) (c (i 28) (c (i 28) (c (i 26) (c (i 28) (c (i 30)
 (c (i 24) (c (i 30) (c (i 30) (c (i 30) (c (i 30) (c (i 30) (c (i 30) (c (i 30) (c (i 30) (c (i 30) (c (i 30) (c (i 30) (c (i 30) (c (i 30) (c (i 30) (c (i
 30) (c3 (i 30) (i 30) (i 30)))))))))))))))))))))))))))))))))))))))) (s [(1,x 6)])) .ret))
def cf42:CF:=⟨1,7,[(.var 1)],bd42⟩
def tr42:List Nat:=[0,2,3,6,9,12,13]
def bd43:Stm:=
 q (s [(0,.cst (.slice none 0 0))]) (q (q (h 1 (.bSl [.int .i64 0] 40 [0,1,2,3,4,5,6,7,8,9,10,11,12,13,14,15,16,17,18,19,20,21,22,23,24,
 25,26,27,28,29,30,31,32,33,34,35,36,37,38,39]) (c (i 26) (c (i 44) (c (i 70) (c (i 100) (c (i 134) (c (i 172) (c (i 196) (c (i 242) (c (i 292)
 (c (i 346) (c (i 404) (c (i 466) (c (i 532) (c (i 581) (c (i 655) (c (i 733) (c (i 815) (c (i 901) (c (i 991) (c (i 1085) (c (i 1156) (c (i 1258) (c (i 1364)
 (c (i 1474) (c (i 1588) (c (i 1706) (c (i 1828) (c (i 1921) (c (i 2051) (c (i 2185) (c (i 2323) (c (i 2465) (c (i 2611) (c (i 2761) (c (i 2876) (c (i 3034) (c
 (i 3196) (c3 (i 3362) (i 3532) (i 3706)))))))))))))))))))))))))))))))))))))))) (s [(0,x 1)])) .ret)
def cf43:CF:=⟨0,2,[(.var 0)],bd43⟩
def tr43:List Nat:=[0,1]
def bd44:Stm:=
 q (q (h 1 .box (c1 (x 0))) (s [(2,.cst (.bool false))])) (q (s [(3,ld (fa 1 (fa 0 (x 1))))]) (q (q (cl 4 66 (c1 (n1 (.ld 3 true) (fa 0 (x 1))))) (s [(2,p (p
 (p (p (x 4) (b .geq (ld (fa 3 (x 1))) (i 1)) (.cst (.bool false))) (b .leq (ld (fa 3 (x 1))) (b .sub (x 3) (i 2))) (.cst (.bool false))) (b .geq (ld (fa 4 (x
 1))) (i 0)) (.cst (.bool false))) (b .leq (ld (fa 4 (x 1))) (b .sub (x 3) (i 2))) (.cst (.bool false)))])) .ret))
def cf44:CF:=⟨1,5,[(.var 2)],bd44⟩
def tr44:List Nat:=[0,1,2,3,9]
def bd45:Stm:=
 q (q (h 2 .box (c1 (x 0))) (s [(3,.cst (.bool false))])) (q (q (s [(4,i 0)]) (.block 0 (.loop (q (.cond (b .lss (x 4) (n1 .len (x 1))) .skip (.exit 0)) (q
 (.block 1 (q (cl 5 67 (c2 (n1 (.ld 3 true) (x 2)) (ld (n2 (.iAddr 1) (x 1) (x 4))))) (.cond (n1 (.un .not) (x 5)) (q (s [(3,.cst (.bool false))]) .ret)
 .skip))) (s [(4,b .add (x 4) (i 1))])))))) (q (s [(3,.cst (.bool true))]) .ret))
def cf45:CF:=⟨2,6,[(.var 3)],bd45⟩
def tr45:List Nat:=[0,1,2,4,5,17]
def bd46:Stm:=
 q (q (h 1 .box (c1 (x 0))) (s [(2,.cst (.slice none 0 0))])) (q (q (h 6 (.bSl [.int .i64 0] 1 [0]) (c1 (i 1))) (s [(3,x 6)])) (q (q (cl 7 68 (c1 (n1 (.ld 5
 true) (x 1)))) (s [(4,x 7)])) (q (q (s [(5,i 0)]) (.block 0 (.loop (q (.cond (b .lss (x 5) (n1 .len (x 4))) .skip (.exit 0)) (q (.block 1 (q (.hv [(12,b
 .add (n1 .len (x 3)) (i 1)),(9,x 3),(8,n1 (.ld 3 true) (fa 0 (x 1)))] [] [] (some 10) (.call true) (c (.cst (.func (.func 48) #[] #[])) (c3 (n1 (.ld 3
 true) (fa 0 (x 1))) (i 0) (ld (n2 (.iAddr 1) (x 4) (x 5)))))) (q (h 11 (.bSl [.int .i64 0] 2 [0,1]) (c2 (x 10) (i 1))) (q (cl 13 69 (c (x 8) (c3 (x 9) (x 11)
 (x 12)))) (s [(3,x 13)]))))) (s [(5,b .add (x 5) (i 1))])))))) (q (s [(2,x 3)]) .ret))))
def cf46:CF:=⟨1,14,[(.var 2)],bd46⟩
def tr46:List Nat:=[0,1,2,3,4,5,6,8,16,17,24,25,28,29]
def bd47:Stm:=
 q (q (h 3 .box (c1 (x 0))) (s [(4,i 0)])) (q (.cond (b .eql (ld (fa 0 (x 3))) (i 2)) (q (s [(4,b .xor (x 1) (x 2))]) .ret) .skip) (q (s [(4,b .rem (b .add (x
 1) (x 2)) (ld (fa 1 (x 3))))]) .ret))
def cf47:CF:=⟨3,5,[(.var 4)],bd47⟩
def tr47:List Nat:=[0,1,2,3,6]
def bd48:Stm:=
 q (q (h 3 .box (c1 (x 0))) (s [(4,i 0)])) (q (.cond (b .eql (ld (fa 0 (x 3))) (i 2)) (q (s [(4,b .xor (x 1) (x 2))]) .ret) .skip) (q (s [(4,b .rem (b .sub (b
 .add (x 1) (ld (fa 1 (x 3)))) (x 2)) (ld (fa 1 (x 3))))]) .ret))
def cf48:CF:=⟨3,5,[(.var 4)],bd48⟩
def tr48:List Nat:=[0,1,2,3,6]
def bd49:Stm:=
 q (q (h 3 .box (c1 (x 0))) (s [(4,i 0)])) (q (.cond (b .neq (ld (fa 0 (x 3))) (i 2)) (q (s [(4,b .rem (b .mul (x 1) (x 2)) (ld (fa 1 (x 3))))]) .ret) .skip)
 (q (s [(5,i 0)]) (q (q (s [(6,i 0)]) (.block 0 (.loop (q (.cond (b .gtr (b .shr (x 2) (n1 (.cvt .u64) (x 6))) (i 0)) .skip (.exit 0)) (q (.block 1 (.cond (b
 .eql (b .and (b .shr (x 2) (n1 (.cvt .u64) (x 6))) (i 1)) (i 1)) (s [(5,b .xor (x 5) (b .shl (x 1) (n1 (.cvt .u64) (x 6))))]) .skip)) (s [(6,b .add (x 6) (i
 1))])))))) (q (q (cl 7 70 (c2 (x 5) (ld (fa 2 (x 3))))) (s [(4,x 7)])) .ret))))
def cf49:CF:=⟨3,8,[(.var 4)],bd49⟩
def tr49:List Nat:=[0,1,2,3,6,7,8,40]
def bd50:Stm:=
 q (q (h 3 .box (c1 (x 0))) (q (h 4 (.alloc [.int .i64 0,.int .i64 0,.int .i64 0,.int .i64 0,.int .i64 0]) .nil) (s [(5,i 0)]))) (q (q (cl 7 66 (c1 (n1 (.ld
 3 true) (x 3)))) (.cond (n1 (.un .not) (x 7)) (q (q (.hv [] [] [] none (.st 5) (c2 (x 4) (.node (.build [.int .i64 0,.int .i64 0,.int .i64 0,.int .i64 0,
 .int .i64 0] []) .nil))) (s [(5,i 1)])) .ret) .skip)) (q (q (.hv [(8,.node (.build [.int .i64 0,.int .i64 0,.int .i64 0,.int .i64 0,.int .i64 0] [(0,
 3),(3,1),(4,1)]) (c3 (n1 (.ld 3 true) (x 3)) (x 1) (x 2)))] [] [] (some 6) (.alloc [.int .i64 0,.int .i64 0,.int .i64 0,.int .i64 0,.int .i64 0])
 .nil) (.hv [] [] [] none (.st 5) (c2 (x 6) (x 8)))) (q (q (cl 9 44 (c1 (n1 (.ld 5 true) (x 6)))) (.cond (n1 (.un .not) (x 9)) (q (q (.hv [] [] [] none (.st 5)
 (c2 (x 4) (.node (.build [.int .i64 0,.int .i64 0,.int .i64 0,.int .i64 0,.int .i64 0] []) .nil))) (s [(5,i 3)])) .ret) .skip)) (q (q (.hv [] [] [] none
 (.st 5) (c2 (x 4) (n1 (.ld 5 true) (x 6)))) (s [(5,i 0)])) .ret))))
def cf50:CF:=⟨3,10,[(.node (.ld 5 true) (.cons (.var 4) .nil)),(.var 5)],bd50⟩
def tr50:List Nat:=[0,1,2,3,6,7,8,10,16,18]
def bd51:Stm:=
 q (q (h 3 .box (c1 (x 0))) (q (h 4 (.alloc [.slice none 0 0,.slice none 0 0]) .nil) (s [(5,i 0)]))) (q (q (cl 11 34 (c2 (n1 (.ld 5 true) (x 3)) (x 1))) (.cond
 (n1 (.un .not) (x 11)) (q (q (.hv [] [] [] none (.st 2) (c2 (x 4) (.node (.build [.slice none 0 0,.slice none 0 0] []) .nil))) (s [(5,i 1)])) .ret) .skip))
 (q (q (s [(14,i 0),(13,n1 .len (x 2)),(12,x 2)]) (.block 0 (.loop (q (.cond (b .lss (x 14) (x 13)) .skip (.exit 0)) (q (.block 1 (q (s [(6,ld (n2
 (.iAddr 1) (x 12) (x 14)))]) (.cond (p (b .lss (x 6) (i 0)) (.cst (.bool true)) (b .geq (x 6) (n1 .len (x 1)))) (q (q (.hv [] [] [] none (.st 2) (c2 (x 4)
 (.node (.build [.slice none 0 0,.slice none 0 0] []) .nil))) (s [(5,i 1)])) .ret) .skip))) (s [(14,b .add (x 14) (i 1))])))))) (q (q (cl 15 35 (c2 (n1 (.ld
 5 true) (x 3)) (n1 .len (x 1)))) (.cond (n1 (.un .not) (x 15)) (q (q (.hv [] [] [] none (.st 2) (c2 (x 4) (.node (.build [.slice none 0 0,.slice none 0 0]
 []) .nil))) (s [(5,i 7)])) .ret) .skip)) (q (q (.hv [(20,n1 .len (x 1)),(18,x 1),(17,n1 (.ld 5 true) (x 3))] [] [] (some 16) (.call true) (c2 (.cst
 (.func (.func 59) #[] #[])) (n1 (.ld 3 true) (fa 0 (x 3))))) (q (h 19 (.app 1 [.int .i64 0]) (c2 (.cst (.slice none 0 0)) (x 18))) (q (h 21 (.mkSl [.bool
 false]) (c2 (x 20) (x 20))) (q (h 22 .box (c1 (.node (.build [.int .i64 0,.int .i64 0,.slice none 0 0,.slice none 0 0,.int .i64 0,.int .i64 0,.int .i64
 0,.int .i64 0,.int .i64 0,.slice none 0 0,.slice none 0 0,.int .i64 0,.slice none 0 0,.slice none 0 0,.slice none 0 0,.slice none 0 0] [(0,4),(4,
 5),(9,1),(10,1)]) (c (x 16) (c3 (x 17) (x 19) (x 21)))))) (q (s [(7,x 22)]) (.dist (.cst (.slice none 0 0)) (x 3))))))) (q (q (s [(25,i 0),(24,n1 .len
 (x 2)),(23,x 2)]) (.block 2 (.loop (q (.cond (b .lss (x 25) (x 24)) .skip (.exit 2)) (q (.block 3 (q (s [(8,ld (n2 (.iAddr 1) (x 23) (x 25)))]) (.cond (n1
 (.un .not) (ld (n2 (.iAddr 1) (ld (fa 10 (n1 .nilChk (x 7)))) (x 8)))) (q (.hv [] [] [] none (.st 1) (c2 (n2 (.iAddr 1) (ld (fa 10 (n1 .nilChk (x 7)))) (x 8))
 (.cst (.bool true)))) (.hv [] [] [] none (.st 1) (c2 (fa 11 (n1 .nilChk (x 7))) (b .add (ld (fa 11 (n1 .nilChk (x 7)))) (i 1))))) .skip))) (s [(25,b .add (x
 25) (i 1))])))))) (q (q (cl 26 71 (c1 (x 7))) (.cond (n1 (.un .not) (x 26)) (q (q (.hv [] [] [] none (.st 2) (c2 (x 4) (.node (.build [.slice none 0 0,.slice
 none 0 0] []) .nil))) (s [(5,i 17)])) .ret) .skip)) (q (s [(9,.cst (.slice none 0 0))]) (q (q (s [(28,i 0),(27,n1 .len (x 1))]) (.block 4 (.loop (q
 (.cond (b .lss (x 28) (x 27)) .skip (.exit 4)) (q (.block 5 (q (s [(10,x 28)]) (.cond (b .neq (ld (n2 (.iAddr 1) (ld (fa 9 (n1 .nilChk (x 7)))) (x 10))) (ld
 (n2 (.iAddr 1) (x 1) (x 10)))) (q (.hv [(29,x 9)] [] [] (some 30) (.bSl [.int .i64 0] 1 [0]) (c1 (x 10))) (q (h 31 (.app 1 [.int .i64 0]) (c2 (x 29) (x 30)))
 (s [(9,x 31)]))) .skip))) (s [(28,b .add (x 28) (i 1))])))))) (q (q (.hv [] [] [] none (.st 2) (c2 (x 4) (n2 (.build [.slice none 0 0,.slice none 0 0] [(0,
 1),(1,1)]) (ld (fa 9 (n1 .nilChk (x 7)))) (x 9)))) (s [(5,i 0)])) .ret)))))))))
def cf51:CF:=⟨3,32,[(.node (.ld 2 true) (.cons (.var 4) .nil)),(.var 5)],bd51⟩
def tr51:List Nat:=[0,1,2,3,6,7,9,10,12,13,14,17,20,21,22,39,44,45,46,47,49,50,52,53,54,55,82,86,87,102,104,105]
def bd52:Stm:=
 q (s [(3,i 0),(2,.cst (.slice none 0 0))]) (q (q (h 7 (.mkSl [.bool false]) (c2 (x 0) (x 0))) (s [(4,x 7)])) (q (s [(5,i 0)]) (q (q (s [(6,i 0)]) (.block
 0 (.loop (q (.cond (b .lss (x 6) (n1 .len (x 1))) .skip (.exit 0)) (q (.block 1 (.cond (n1 (.un .not) (ld (n2 (.iAddr 1) (x 4) (ld (n2 (.iAddr 1) (x 1) (x
 6)))))) (q (.hv [] [] [] none (.st 1) (c2 (n2 (.iAddr 1) (x 4) (ld (n2 (.iAddr 1) (x 1) (x 6)))) (.cst (.bool true)))) (s [(5,b .add (x 5) (i 1))])) .skip))
 (s [(6,b .add (x 6) (i 1))])))))) (q (s [(3,x 5),(2,x 4)]) .ret))))
def cf52:CF:=⟨2,8,[(.var 2),(.var 3)],bd52⟩
def tr52:List Nat:=[0,1,4,5,6,7,8,10]
def bd53:Stm:=
 q (q (h 4 .box (c1 (x 0))) (q (h 5 (.alloc [.slice none 0 0,.slice none 0 0]) .nil) (s [(6,i 0)]))) (q (q (.hv [(24,n1 (.ld 3 true) (fa 0 (x 4)))] [] []
 (some 7) (.alloc [.int .i64 0,.int .i64 0,.int .i64 0]) .nil) (.hv [] [] [] none (.st 3) (c2 (x 7) (x 24)))) (q (q (cl 25 72 (c2 (n1 (.ld 5 true) (x 4)) (x
 1))) (s [(8,x 25)])) (q (q (cl 26 73 (c2 (n1 (.ld 3 true) (x 7)) (n1 .len (x 1)))) (s [(9,x 26)])) (q (q (h 27 (.bSl [.int .i64 0] 1 [0]) (c1 (i 1))) (s
 [(10,x 27)])) (q (q (s [(11,i 0)]) (.block 0 (.loop (q (.cond (b .lss (x 11) (n1 .len (x 1))) .skip (.exit 0)) (q (.block 1 (.cond (ld (n2 (.iAddr 1) (x 2)
 (x 11))) (q (.hv [(32,b .add (n1 .len (x 10)) (i 1)),(29,x 10),(28,n1 (.ld 3 true) (x 7))] [] [] (some 30) (.call true) (c (.cst (.func (.func 48) #[]
 #[])) (c3 (n1 (.ld 3 true) (x 7)) (i 0) (ld (n2 (.iAddr 1) (x 9) (x 11)))))) (q (h 31 (.bSl [.int .i64 0] 2 [0,1]) (c2 (i 1) (x 30))) (q (cl 33 69 (c (x 28)
 (c3 (x 29) (x 31) (x 32)))) (s [(10,x 33)])))) .skip)) (s [(11,b .add (x 11) (i 1))])))))) (q (q (.hv [(36,x 3),(34,n1 (.ld 3 true) (x 7))] [] [] (some
 35) (.call true) (c (.cst (.func (.func 69) #[] #[])) (c (n1 (.ld 3 true) (x 7)) (c3 (x 8) (x 10) (n1 .len (x 8)))))) (q (cl 37 74 (c2 (x 34) (n2 (.sl 1 true
 false false) (x 35) (x 36)))) (s [(13,ix 1 (x 37)),(12,ix 0 (x 37))]))) (q (s [(15,.cst (.slice none 0 0)),(14,.cst (.slice none 0 0))]) (q (s [(16,i
 0)]) (q (q (s [(17,i 0)]) (.block 2 (.loop (q (.cond (b .lss (x 17) (n1 .len (x 1))) .skip (.exit 2)) (q (.block 3 (q (q (.hv [(40,p (n1 (.un .not) (ld (n2
 (.iAddr 1) (x 2) (x 17)))) (x 12) (.cst (.tuple #[]))),(39,p (n1 (.un .not) (ld (n2 (.iAddr 1) (x 2) (x 17)))) (n1 (.ld 3 true) (x 7)) (.cst (.tuple #[]))),
 (38,n1 (.un .not) (ld (n2 (.iAddr 1) (x 2) (x 17))))] [] [(n1 (.un .not) (ld (n2 (.iAddr 1) (x 2) (x 17))),true)] (some 41) (.call true) (c3 (.cst (.func
 (.func 76) #[] #[])) (n1 (.ld 3 true) (x 7)) (ld (n2 (.iAddr 1) (x 9) (x 17))))) (q (.hv [] [] [(x 38,true)] (some 42) (.call false) (c (.cst (.func (.func
 75) #[] #[])) (c3 (x 39) (x 40) (x 41)))) (s [(18,p (x 38) (b .eql (x 42) (i 0)) (.cst (.bool false)))]))) (q (.cond (x 18) (s [(16,b .add (x 16) (i 1))])
 .skip) (.cond (p (x 18) (.cst (.bool true)) (ld (n2 (.iAddr 1) (x 2) (x 17)))) (q (q (.hv [(43,x 14)] [] [] (some 44) (.bSl [.int .i64 0] 1 [0]) (c1 (ld (n2
 (.iAddr 1) (x 9) (x 17))))) (q (h 45 (.app 1 [.int .i64 0]) (c2 (x 43) (x 44))) (s [(14,x 45)]))) (q (.hv [(46,x 15)] [] [] (some 47) (.bSl [.int .i64 0] 1
 [0]) (c1 (x 17))) (q (h 48 (.app 1 [.int .i64 0]) (c2 (x 46) (x 47))) (s [(15,x 48)])))) .skip)))) (s [(17,b .add (x 17) (i 1))])))))) (q (.cond (p (p (b
 .neq (x 16) (x 13)) (.cst (.bool true)) (b .neq (x 16) (b .sub (n1 .len (x 12)) (i 1)))) (.cst (.bool true)) (b .gtr (b .add (b .mul (i 2) (x 16)) (x 3)) (ld
 (fa 3 (x 4))))) (q (q (.hv [] [] [] none (.st 2) (c2 (x 5) (.node (.build [.slice none 0 0,.slice none 0 0] []) .nil))) (s [(6,i 17)])) .ret) .skip) (q (q
 (.hv [(49,.node (.build [.slice none 0 0,.slice none 0 0] []) .nil)] [] [] (some 19) (.alloc [.slice none 0 0,.slice none 0 0]) .nil) (.hv [] [] [] none
 (.st 2) (c2 (x 19) (x 49)))) (q (q (h 50 (.app 1 [.int .i64 0]) (c2 (ld (fa 0 (x 19))) (x 1))) (.hv [] [] [] none (.st 1) (c2 (fa 0 (x 19)) (x 50)))) (q (q
 (cl 51 77 (c (n1 (.ld 3 true) (x 7)) (c3 (x 8) (x 14) (ld (fa 4 (x 4)))))) (s [(20,x 51)])) (q (q (s [(21,i 0)]) (.block 4 (.loop (q (.cond (b .lss (x 21)
 (n1 .len (x 15))) .skip (.exit 4)) (q (.block 5 (.cond (b .neq (ld (n2 (.iAddr 1) (x 20) (x 21))) (i 0)) (q (q (.hv [(53,ld (n2 (.iAddr 1) (x 15) (x 21))),
 (52,ld (fa 0 (x 19)))] [] [] (some 54) (.call true) (c (.cst (.func (.func 48) #[] #[])) (c3 (n1 (.ld 3 true) (x 7)) (ld (n2 (.iAddr 1) (x 1) (ld (n2 (.iAddr
 1) (x 15) (x 21))))) (ld (n2 (.iAddr 1) (x 20) (x 21)))))) (.hv [] [] [] none (.st 1) (c2 (n2 (.iAddr 1) (x 52) (x 53)) (x 54)))) (q (.hv [(55,ld (fa 1 (x
 19)))] [] [] (some 56) (.bSl [.int .i64 0] 1 [0]) (c1 (ld (n2 (.iAddr 1) (x 15) (x 21))))) (q (h 57 (.app 1 [.int .i64 0]) (c2 (x 55) (x 56))) (.hv [] [] []
 none (.st 1) (c2 (fa 1 (x 19)) (x 57)))))) .skip)) (s [(21,b .add (x 21) (i 1))])))))) (q (q (cl 58 72 (c2 (n1 (.ld 5 true) (x 4)) (ld (fa 0 (x 19))))) (s
 [(22,x 58)])) (q (q (s [(23,i 0)]) (.block 6 (.loop (q (.cond (b .lss (x 23) (n1 .len (x 22))) .skip (.exit 6)) (q (.block 7 (.cond (b .neq (ld (n2 (.iAddr
 1) (x 22) (x 23))) (i 0)) (q (q (.hv [] [] [] none (.st 2) (c2 (x 5) (.node (.build [.slice none 0 0,.slice none 0 0] []) .nil))) (s [(6,i 17)])) .ret)
 .skip)) (s [(23,b .add (x 23) (i 1))])))))) (q (q (.hv [] [] [] none (.st 2) (c2 (x 5) (n1 (.ld 2 true) (x 19)))) (s [(6,i 0)])) .ret)))))))))))))))))
def cf53:CF:=⟨4,59,[(.node (.ld 2 true) (.cons (.var 5) .nil)),(.var 6)],bd53⟩
def tr53:List Nat:=[0,1,2,3,4,8,9,10,11,12,13,14,15,16,17,18,19,20,21,22,23,24,25,26,28,31,35,36,47,48,54,55,58,59,61,67,68,70,84,85,86,92,93,106,111,112,113,115,116,137,141,148,161,165,178,181,186,187,192]
def bd54:Stm:=
 q (s [(1,.cst (.bool false))]) (q (s [(1,p (b .geq (x 0) (i 1)) (b .leq (x 0) (i 40)) (.cst (.bool false)))]) .ret)
def cf54:CF:=⟨1,2,[(.var 1)],bd54⟩
def tr54:List Nat:=[0,2]
def bd55:Stm:=
 q (h 1 (.alloc [.int .i64 0,.int .i64 0,.int .i64 0,.int .i64 0,.int .i64 0,.int .i64 0,.int .i64 0,.int .i64 0,.int .i64 0,.int .i64 0]) .nil) (q (q
 (.hv [(3,.node (.build [.int .i64 0,.int .i64 0,.int .i64 0,.int .i64 0,.int .i64 0,.int .i64 0,.int .i64 0,.int .i64 0,.int .i64 0,.int .i64 0,
 .int .i64 0,.int .i64 0,.int .i64 0,.int .i64 0,.int .i64 0,.int .i64 0,.int .i64 0,.int .i64 0,.int .i64 0,.int .i64 0,.int .i64 0,.int .i64 0,
 .int .i64 0,.int .i64 0,.int .i64 0,.int .i64 0,.int .i64 0,.int .i64 0,.int .i64 0,.int .i64 0,.int .i64 0,.int .i64 0,.int .i64 0,.int .i64 0,
 .int .i64 0,.int .i64 0,.int .i64 0,.int .i64 0,.int .i64 0,.int .i64 0,.int .i64 0,.int .i64 0,.int .i64 0,.int .i64 0,.int .i64 0,.int .i64 0,
 .int .i64 0,.int .i64 0,.int .i64 0,.int .i64 0,.int .i64 0,.int .i64 0,.int .i64 0,.int .i64 0,.int .i64 0,.int .i64 0,.int .i64 0,.int .i64 0,
 .int .i64 0,.int .i64 0,.int .i64 0,.int .i64 0,.int .i64 0,.int .i64 0,.int .i64 0,.int .i64 0,.int .i64 0,.int .i64 0,.int .i64 0,.int .i64 0,
 .int .i64 0,.int .i64 0,.int .i64 0,.int .i64 0,.int .i64 0,.int .i64 0,.int .i64 0,.int .i64 0,.int .i64 0,.int .i64 0,.int .i64 0,.int .i64 0,
 .int .i64 0,.int .i64 0,.int .i64 0,.int .i64 0,.int .i64 0,.int .i64 0,.int .i64 0,.int .i64 0,.int .i64 0,.int .i64 0,.int .i64 0,.int .i64 0,
 .int .i64 0,.int .i64 0,.int .i64 0,.int .i64 0,.int .i64 0,.int .i64 0,.int .i64 0,.int .i64 0,.int .i64 0,.int .i64 0,.int .i64 0,.int .i64 0,
 .int .i64 0,.int .i64 0,.int .i64 0,.int .i64 0,.int .i64 0,.int .i64 0,.int .i64 0,.int .i64 0,.int .i64 0,.int .i64 0,.int .i64 0,.int .i64 0,
 .int .i64 0,.int .i64 0,.int .i64 0,.int .i64 0,.int .i64 0,.int .i64 0,.int .i64 0,.int .i64 0,.int .i64 0,.int .i64 0,.int .i64 0,.int .i64 0,
 .int .i64 0,.int .i64 0,.int .i64 0,.int .i64 0,.int .i64 0,.int .i64 0,.int .i64 0,.int .i64 0,.int .i64 0,.int .i64 0,.int .i64 0,.int .i64 0,
 .int .i64 0,.int .i64 0,.int .i64 0,.int .i64 0,.int .i64 0,.int .i64 0,.int .i64 0,.int .i64 0,.int .i64 0,.int .i64 0,.int .i64 0,.int .i64 0,
 .int .i64 0,.int .i64 0,.int .i64 0,.int .i64 0,.int .i64 0,.int .i64 0,.int .i64 0,.int .i64 0,.int .i64 0,.int .i64 0,.int .i64 0,.int .i64 0,
 .int .i64 0,.int .i64 0,.int .i64 0,.int .i64 0,.int .i64 0,.int .i64 0,.int .i64 0,.int .i64 0,.int .i64 0,.int .i64 0,.int .i64 0,.int .i64 0,
 .int .i64 0,.int .i64 0,.int .i64 0,.int .i64 0,.int .i64 0,.int .i64 0,.int .i64 0,.int .i64 0,.int .i64 0,.int .i64 0,.int .i64 0,.int .i64 0,
 .int .i64 0,.int .i64 0,.int .i64 0,.int .i64 0,.int .i64 0,.int .i64 0,.int .i64 0,.int .i64 0,.int .i64 0,.int .i64 0,.int .i64 0,.int .i64 0,
 .int .i64 0,.int .i64 0,.int .i64 0,.int .i64 0,.int .i64 0,.int .i64 0,.int .i64 0,.int .i64 0,.int .i64 0,.int .i64 0,.int .i64 0,.int .i64 0,
 .int .i64 0,.int .i64 0,.int .i64 0,.int .i64 0,.int .i64 0,.int .i64 0,.int .i64 0,.int .i64 0,.int .i64 0,.int .i64 0,.int .i64 0,.int .i64 0,
 .int .i64 0,.int .i64 0,.int .i64 0,.int .i64 0,.int .i64 0,.int .i64 0,.int .i64 0,.int .i64 0,.int .i64 0,.int .i64 0,.int .i64 0,.int .i64 0,
 .int .i64 0,.int .i64 0,.int .i64 0,.int .i64 0,.int .i64 0,.int .i64 0,.int .i64 0,.int .i64 0,.int .i64 0,.int .i64 0,.int .i64 0,.int .i64 0,
 .int .i64 0,.int .i64 0,.int .i64 0,.int .i64 0,.int .i64 0,.int .i64 0,.int .i64 0,.int .i64 0,.int .i64 0,.int .i64 0,.int .i64 0,.int .i64 0,
 .int .i64 0,.int .i64 0,.int .i64 0,.int .i64 0,.int .i64 0,.int .i64 0,.int .i64 0,.int .i64 0,.int .i64 0,.int .i64 0,.int .i64 0,.int .i64 0,
 .int .i64 0,.int .i64 0,.int .i64 0,.int .i64 0,.int .i64 0,.int .i64 0,.int .i64 0,.int .i64 0,.int .i64 0,.int .i64 0,.int .i64 0,.int .i64 0,
 .int .i64 0,.int .i64 0,.int .i64 0,.int .i64 0,.int .i64 0,.int .i64 0,.int .i64 0,.int .i64 0,.int .i64 0,.int .i64 0,.int .i64 0,.int .i64 0,
 .int .i64 0,.int .i64 0,.int .i64 0,.int .i64 0,.int .i64 0,.int .i64 0,.int .i64 0,.int .i64 0,.int .i64 0,.int .i64 0,.int .i64 0,.int .i64 0,
 .int .i64 0,.int .i64 0,.int .i64 0,.int .i64 0,.int .i64 0,.int .i64 0,.int .i64 0,.int .i64 0,.int .i64 0,.int .i64 0,.int .i64 0,.int .i64 0,
 .int .i64 0,.int .i64 0,.int .i64 0,.int .i64 0,.int .i64 0,.int .i64 0,.int .i64 0,.int .i64 0,.int .i64 0,.int .i64 0,.int .i64 0,.int .i64 0,
 .int .i64 0,.int .i64 0,.int .i64 0,.int .i64 0,.int .i64 0,.int .i64 0,.int .i64 0,.int .i64 0,.int .i64 0,.int .i64 0,.int .i64 0,.int .i64 0,
 .int .i64 0,.int .i64 0,.int .i64 0,.int .i64 0,.int .i64 0,.int .i64 0,.int .i64 0,.int .i64 0,.int .i64 0,.int .i64 0,.int .i64 0,.int .i64 0,
 .int .i64 0,.int .i64 0,.int .i64 0,.int .i64 0,.int .i64 0,.int .i64 0,.int .i64 0,.int .i64 0,.int .i64 0,.int .i64 0,.int .i64 0,.int .i64 0,
 .int .i64 0,.int .i64 0,.int .i64 0,.int .i64 0,.int .i64 0,.int .i64 0,.int .i64 0,.int .i64 0,.int .i64 0,.int .i64 0,.int .i64 0,.int .i64 0,
 .int .i64 0,.int .i64 0,.int .i64 0,.int .i64 0,.int .i64 0,.int .i64 0,.int .i64 0,.int .i64 0,.int .i64 0,.int .i64 0,.int .i64 0,.int .i64 0,
 .int .i64 0,.int .i64 0,.int .i64 0,.int .i64 0,.int .i64 0,.int .i64 0] [(0,10),(10,10),(20,10),(30,10),(40,10),(50,10),(60,10),(70,10),
 (80,10),(90,10),(100,10),(110,10),(120,10),(130,10),(140,10),(150,10),(160,10),(170,10),(180,10),(190,10),(200,10),(210,10),(220,
 10),(230,10),(240,10),(250,10),(260,10),(270,10),(280,10),(290,10),(300,10),(310,10),(320,10),(330,10),(340,10),(350,10),(360,10),
 (370,10),(380,10),(390,10)]) (c (.node (.build [.int .i64 0,.int .i64 0,.int .i64 0,.int .i64 0,.int .i64 0,.int .i64 0,.int .i64 0,.int .i64 0,
 .int .i64 0,.int .i64 0] [(0,1),(1,1),(2,1),(3,1),(4,1),(5,1),(6,1),(7,1),(8,1),(9,1)]) (c (i 26) (c (i 0) (c (i 7) (c (i 1) (c (i 10) (c
 (i 1) (c (i 13) (c3 (i 1) (i 17) (i 1)))))))))) (c (.node (.build [.int .i64 0,.int .i64 0,.int .i64 0,.int .i64 0,.int .i64 0,.int .i64 0,.int .i64 0,
 .int .i64 0,.int .i64 0,.int .i64 0] [(0,1),(1,1),(2,1),(3,1),(4,1),(5,1),(6,1),(7,1),(8,1),(9,1)]) (c (i 44) (c (i 7) (c (i 10) (c (i 1)
 (c (i 16) (c (i 1) (c (i 22) (c3 (i 1) (i 28) (i 1)))))))))) (c (.node (.build [.int .i64 0,.int .i64 0,.int .i64 0,.int .i64 0,.int .i64 0,.int .i64 0,
 .int .i64 0,.int .i64 0,.int .i64 0,.int .i64 0] [(0,1),(1,1),(2,1),(3,1),(4,1),(5,1),(6,1),(7,1),(8,1),(9,1)]) (c (i 70) (c (i 7) (c (i
 15) (c (i 1) (c (i 26) (c (i 1) (c (i 18) (c3 (i 2) (i 22) (i 2)))))))))) (c (.node (.build [.int .i64 0,.int .i64 0,.int .i64 0,.int .i64 0,.int .i64 0,
 .int .i64 0,.int .i64 0,.int .i64 0,.int .i64 0,.int .i64 0] [(0,1),(1,1),(2,1),(3,1),(4,1),(5,1),(6,1),(7,1),(8,1),(9,1)]) (c (i 100)
 (c (i 7) (c (i 20) (c (i 1) (c (i 18) (c (i 2) (c (i 26) (c3 (i 2) (i 16) (i 4)))))))))) (c (.node (.build [.int .i64 0,.int .i64 0,.int .i64 0,.int .i64
 0,.int .i64 0,.int .i64 0,.int .i64 0,.int .i64 0,.int .i64 0,.int .i64 0] [(0,1),(1,1),(2,1),(3,1),(4,1),(5,1),(6,1),(7,1),(8,1),(9,
 1)]) (c (i 134) (c (i 7) (c (i 26) (c (i 1) (c (i 24) (c (i 2) (c (i 18) (c3 (i 4) (i 22) (i 4)))))))))) (c (.node (.build [.int .i64 0,.int .i64 0,.int
 .i64 0,.int .i64 0,.int .i64 0,.int .i64 0,.int .i64 0,.int .i64 0,.int .i64 0,.int .i64 0] [(0,1),(1,1),(2,1),(3,1),(4,1),(5,1),(6,1),
 (7,1),(8,1),(9,1)]) (c (i 172) (c (i 7) (c (i 18) (c (i 2) (c (i 16) (c (i 4) (c (i 24) (c3 (i 4) (i 28) (i 4)))))))))) (c (.node (.build [.int .i64 0,
 .int .i64 0,.int .i64 0,.int .i64 0,.int .i64 0,.int .i64 0,.int .i64 0,.int .i64 0,.int .i64 0,.int .i64 0] [(0,1),(1,1),(2,1),(3,1),(4,1),
 (5,1),(6,1),(7,1),(8,1),(9,1)]) (c (i 196) (c (i 0) (c (i 20) (c (i 2) (c (i 18) (c (i 4) (c (i 18) (c3 (i 6) (i 26) (i 5)))))))))) (c (.node (.build
 [.int .i64 0,.int .i64 0,.int .i64 0,.int .i64 0,.int .i64 0,.int .i64 0,.int .i64 0,.int .i64 0,.int .i64 0,.int .i64 0] [(0,1),(1,1),(2,1),
 (3,1),(4,1),(5,1),(6,1),(7,1),(8,1),(9,1)]) (c (i 242) (c (i 0) (c (i 24) (c (i 2) (c (i 22) (c (i 4) (c (i 22) (c3 (i 6) (i 26) (i 6))))))))))
 (c (.node (.build [.int .i64 0,.int .i64 0,.int .i64 0,.int .i64 0,.int .i64 0,.int .i64 0,.int .i64 0,.int .i64 0,.int .i64 0,.int .i64 0] [(0,1),
 (1,1),(2,1),(3,1),(4,1),(5,1),(6,1),(7,1),(8,1),(9,1)]) (c (i 292) (c (i 0) (c (i 30) (c (i 2) (c (i 22) (c (i 5) (c (i 20) (c3 (i 8) (i 24)
 (i 8)))))))))) (c (.node (.build [.int .i64 0,.int .i64 0,.int .i64 0,.int .i64 0,.int .i64 0,.int .i64 0,.int .i64 0,.int .i64 0,.int .i64 0,.int
 .i64 0] [(0,1),(1,1),(2,1),(3,1),(4,1),(5,1),(6,1),(7,1),(8,1),(9,1)]) (c (i 346) (c (i 0) (c (i 18) (c (i 4) (c (i 26) (c (i 5) (c (i 24)
 (c3 (i 8) (i 28) (i 8)))))))))) (c (.node (.build [.int .i64 0,.int .i64 0,.int .i64 0,.int .i64 0,.int .i64 0,.int .i64 0,.int .i64 0,.int .i64 0,
 .int .i64 0,.int .i64 0] [(0,1),(1,1),(2,1),(3,1),(4,1),(5,1),(6,1),(7,1),(8,1),(9,1)]) (c (i 404) (c (i 0) (c (i 20) (c (i 4) (c (i 30)
 (c (i 5) (c (i 28) (c3 (i 8) (i 24) (i 11)))))))))) (c (.node (.build [.int .i64 0,.int .i64 0,.int .i64 0,.int .i64 0,.int .i64 0,.int .i64 0,.int .i64
 0,.int .i64 0,.int .i64 0,.int .i64 0] [(0,1),(1,1),(2,1),(3,1),(4,1),(5,1),(6,1),(7,1),(8,1),(9,1)]) (c (i 466) (c (i 0) (c (i 24) (c
 (i 4) (c (i 22) (c (i 8) (c (i 26) (c3 (i 10) (i 28) (i 11)))))))))) (c (.node (.build [.int .i64 0,.int .i64 0,.int .i64 0,.int .i64 0,.int .i64 0,.int
 .i64 0,.int .i64 0,.int .i64 0,.int .i64 0,.int .i64 0] [(0,1),(1,1),(2,1),(3,1),(4,1),(5,1),(6,1),(7,1),(8,1),(9,1)]) (c (i 532) (c (i
 0) (c (i 26) (c (i 4) (c (i 22) (c (i 9) (c (i 24) (c3 (i 12) (i 22) (i 16)))))))))) (c (.node (.build [.int .i64 0,.int .i64 0,.int .i64 0,.int .i64 0,
 .int .i64 0,.int .i64 0,.int .i64 0,.int .i64 0,.int .i64 0,.int .i64 0] [(0,1),(1,1),(2,1),(3,1),(4,1),(5,1),(6,1),(7,1),(8,1),(9,
 1)]) (c (i 581) (c (i 3) (c (i 30) (c (i 4) (c (i 24) (c (i 9) (c (i 20) (c3 (i 16) (i 24) (i 16)))))))))) (c (.node (.build [.int .i64 0,.int .i64 0,.int
 .i64 0,.int .i64 0,.int .i64 0,.int .i64 0,.int .i64 0,.int .i64 0,.int .i64 0,.int .i64 0] [(0,1),(1,1),(2,1),(3,1),(4,1),(5,1),(6,1),
 (7,1),(8,1),(9,1)]) (c (i 655) (c (i 3) (c (i 22) (c (i 6) (c (i 24) (c (i 10) (c (i 30) (c3 (i 12) (i 24) (i 18)))))))))) (c (.node (.build [.int .i64
 0,.int .i64 0,.int .i64 0,.int .i64 0,.int .i64 0,.int .i64 0,.int .i64 0,.int .i64 0,.int .i64 0,.int .i64 0] [(0,1),(1,1),(2,1),(3,1),(4,
 1),(5,1),(6,1),(7,1),(8,1),(9,1)]) (c (i 733) (c (i 3) (c (i 24) (c (i 6) (c (i 28) (c (i 10) (c (i 24) (c3 (i 17) (i 30) (i 16)))))))))) (c (.node
 (.build [.int .i64 0,.int .i64 0,.int .i64 0,.int .i64 0,.int .i64 0,.int .i64 0,.int .i64 0,.int .i64 0,.int .i64 0,.int .i64 0] [(0,1),(1,1),
 (2,1),(3,1),(4,1),(5,1),(6,1),(7,1),(8,1),(9,1)]) (c (i 815) (c (i 3) (c (i 28) (c (i 6) (c (i 28) (c (i 11) (c (i 28) (c3 (i 16) (i 28) (i
 19)))))))))) (c (.node (.build [.int .i64 0,.int .i64 0,.int .i64 0,.int .i64 0,.int .i64 0,.int .i64 0,.int .i64 0,.int .i64 0,.int .i64 0,.int .i64
 0] [(0,1),(1,1),(2,1),(3,1),(4,1),(5,1),(6,1),(7,1),(8,1),(9,1)]) (c (i 901) (c (i 3) (c (i 30) (c (i 6) (c (i 26) (c (i 13) (c (i 28) (c3
 (i 18) (i 28) (i 21)))))))))) (c (.node (.build [.int .i64 0,.int .i64 0,.int .i64 0,.int .i64 0,.int .i64 0,.int .i64 0,.int .i64 0,.int .i64 0,.int
 .i64 0,.int .i64 0] [(0,1),(1,1),(2,1),(3,1),(4,1),(5,1),(6,1),(7,1),(8,1),(9,1)]) (c (i 991) (c (i 3) (c (i 28) (c (i 7) (c (i 26) (c (i
 14) (c (i 26) (c3 (i 21) (i 26) (i 25)))))))))) (c (.node (.build [.int .i64 0,.int .i64 0,.int .i64 0,.int .i64 0,.int .i64 0,.int .i64 0,.int .i64 0,
 .int .i64 0,.int .i64 0,.int .i64 0] [(0,1),(1,1),(2,1),(3,1),(4,1),(5,1),(6,1),(7,1),(8,1),(9,1)]) (c (i 1085) (c (i 3) (c (i 28) (c (i
 8) (c (i 26) (c (i 16) (c (i 30) (c3 (i 20) (i 28) (i 25)))))))))) (c (.node (.build [.int .i64 0,.int .i64 0,.int .i64 0,.int .i64 0,.int .i64 0,.int
 .i64 0,.int .i64 0,.int .i64 0,.int .i64 0,.int .i64 0] [(0,1),(1,1),(2,1),(3,1),(4,1),(5,1),(6,1),(7,1),(8,1),(9,1)]) (c (i 1156) (c
 (i 4) (c (i 28) (c (i 8) (c (i 26) (c (i 17) (c (i 28) (c3 (i 23) (i 30) (i 25)))))))))) (c (.node (.build [.int .i64 0,.int .i64 0,.int .i64 0,.int .i64
 0,.int .i64 0,.int .i64 0,.int .i64 0,.int .i64 0,.int .i64 0,.int .i64 0] [(0,1),(1,1),(2,1),(3,1),(4,1),(5,1),(6,1),(7,1),(8,1),(9,
 1)]) (c (i 1258) (c (i 4) (c (i 28) (c (i 9) (c (i 28) (c (i 17) (c (i 30) (c3 (i 23) (i 24) (i 34)))))))))) (c (.node (.build [.int .i64 0,.int .i64 0,.int
 .i64 0,.int .i64 0,.int .i64 0,.int .i64 0,.int .i64 0,.int .i64 0,.int .i64 0,.int .i64 0] [(0,1),(1,1),(2,1),(3,1),(4,1),(5,1),(6,1),
 (7,1),(8,1),(9,1)]) (c (i 1364) (c (i 4) (c (i 30) (c (i 9) (c (i 28) (c (i 18) (c (i 30) (c3 (i 25) (i 30) (i 30)))))))))) (c (.node (.build [.int .i64
 0,.int .i64 0,.int .i64 0,.int .i64 0,.int .i64 0,.int .i64 0,.int .i64 0,.int .i64 0,.int .i64 0,.int .i64 0] [(0,1),(1,1),(2,1),(3,1),(4,
 1),(5,1),(6,1),(7,1),(8,1),(9,1)]) (c (i 1474) (c (i 4) (c (i 30) (c (i 10) (c (i 28) (c (i 20) (c (i 30) (c3 (i 27) (i 30) (i 32)))))))))) (c
 (.node (.build [.int .i64 0,.int .i64 0,.int .i64 0,.int .i64 0,.int .i64 0,.int .i64 0,.int .i64 0,.int .i64 0,.int .i64 0,.int .i64 0] [(0,1),(1,
 1),(2,1),(3,1),(4,1),(5,1),(6,1),(7,1),(8,1),(9,1)]) (c (i 1588) (c (i 4) (c (i 26) (c (i 12) (c (i 28) (c (i 21) (c (i 30) (c3 (i 29) (i 30)
 (i 35)))))))))) (c (.node (.build [.int .i64 0,.int .i64 0,.int .i64 0,.int .i64 0,.int .i64 0,.int .i64 0,.int .i64 0,.int .i64 0,.int .i64 0,.int
 .i64 0] [(0,1),(1,1),(2,1),(3,1),(4,1),(5,1),(6,1),(7,1),(8,1),(9,1)]) (c (i 1706) (c (i 4) (c (i 28) (c (i 12) (c (i 28) (c (i 23) (c (i
 28) (c3 (i 34) (i 30) (i 37)))))))))) (c (.node (.build [.int .i64 0,.int .i64 0,.int .i64 0,.int .i64 0,.int .i64 0,.int .i64 0,.int .i64 0,.int .i64
 0,.int .i64 0,.int .i64 0] [(0,1),(1,1),(2,1),(3,1),(4,1),(5,1),(6,1),(7,1),(8,1),(9,1)]) (c (i 1828) (c (i 4) (c (i 30) (c (i 12) (c (i
 28) (c (i 25) (c (i 30) (c3 (i 34) (i 30) (i 40)))))))))) (c (.node (.build [.int .i64 0,.int .i64 0,.int .i64 0,.int .i64 0,.int .i64 0,.int .i64 0,
 .int .i64 0,.int .i64 0,.int .i64 0,.int .i64 0] [(0,1),(1,1),(2,1),(3,1),(4,1),(5,1),(6,1),(7,1),(8,1),(9,1)]) (c (i 1921) (c (i 3) (c
 (i 30) (c (i 13) (c (i 28) (c (i 26) (c (i 30) (c3 (i 35) (i 30) (i 42)))))))))) (c (.node (.build [.int .i64 0,.int .i64 0,.int .i64 0,.int .i64 0,.int
 .i64 0,.int .i64 0,.int .i64 0,.int .i64 0,.int .i64 0,.int .i64 0] [(0,1),(1,1),(2,1),(3,1),(4,1),(5,1),(6,1),(7,1),(8,1),(9,1)]) (c
 (i 2051) (c (i 3) (c (i 30) (c (i 14) (c (i 28) (c (i 28) (c (i 30) (c3 (i 38) (i 30) (i 45)))))))))) (c (.node (.build [.int .i64 0,.int .i64 0,.int .i64
 0,.int .i64 0,.int .i64 0,.int .i64 0,.int .i64 0,.int .i64 0,.int .i64 0,.int .i64 0] [(0,1),(1,1),(2,1),(3,1),(4,1),(5,1),(6,1),(7,1),
 (8,1),(9,1)]) (c (i 2185) (c (i 3) (c (i 30) (c (i 15) (c (i 28) (c (i 29) (c (i 30) (c3 (i 40) (i 30) (i 48)))))))))) (c (.node (.build [.int .i64 0,.int
 .i64 0,.int .i64 0,.int .i64 0,.int .i64 0,.int .i64 0,.int .i64 0,.int .i64 0,.int .i64 0,.int .i64 0] [(0,1),(1,1),(2,1),(3,1),(4,1),(5,
 1),(6,1),(7,1),(8,1),(9,1)]) (c (i 2323) (c (i 3) (c (i 30) (c (i 16) (c (i 28) (c (i 31) (c (i 30) (c3 (i 43) (i 30) (i 51)))))))))) (c (.node
 (.build [.int .i64 0,.int .i64 0,.int .i64 0,.int .i64 0,.int .i64 0,.int .i64 0,.int .i64 0,.int .i64 0,.int .i64 0,.int .i64 0] [(0,1),(1,1),
 (2,1),(3,1),(4,1),(5,1),(6,1),(7,1),(8,1),(9,1)]) (c (i 2465) (c (i 3) (c (i 30) (c (i 17) (c (i 28) (c (i 33) (c (i 30) (c3 (i 45) (i 30) (i
 54)))))))))) (c (.node (.build [.int .i64 0,.int .i64 0,.int .i64 0,.int .i64 0,.int .i64 0,.int .i64 0,.int .i64 0,.int .i64 0,.int .i64 0,.int .i64
 0] [(0,1),(1,1),(2,1),(3,1),(4,1),(5,1),(6,1),(7,1),(8,1),(9,1)]) (c (i 2611) (c (i 3) (c (i 30) (c (i 18) (c (i 28) (c (i 35) (c (i 30)
 (c3 (i 48) (i 30) (i 57)))))))))) (c (.node (.build [.int .i64 0,.int .i64 0,.int .i64 0,.int .i64 0,.int .i64 0,.int .i64 0,.int .i64 0,.int .i64 0,
 .int .i64 0,.int .i64 0] [(0,1),(1,1),(2,1),(3,1),(4,1),(5,1),(6,1),(7,1),(8,1),(9,1)]) (c (i 2761) (c (i 3) (c (i 30) (c (i 19) (c (i 28)
 (c (i 37) (c (i 30) (c3 (i 51) (i 30) (i 60)))))))))) (c (.node (.build [.int .i64 0,.int .i64 0,.int .i64 0,.int .i64 0,.int .i64 0,.int .i64 0,.int
 .i64 0,.int .i64 0,.int .i64 0,.int .i64 0] [(0,1),(1,1),(2,1),(3,1),(4,1),(5,1),(6,1),(7,1),(8,1),(9,1)]) (c (i 2876) (c (i 0) (c (i
 30) (c (i 19) (c (i 28) (c (i 38) (c (i 30) (c3 (i 53) (i 30) (i 63)))))))))) (c (.node (.build [.int .i64 0,.int .i64 0,.int .i64 0,.int .i64 0,.int .i64
 0,.int .i64 0,.int .i64 0,.int .i64 0,.int .i64 0,.int .i64 0] [(0,1),(1,1),(2,1),(3,1),(4,1),(5,1),(6,1),(7,1),(8,1),(9,1)]) (c (i
 3034) (c (i 0) (c (i 30) (c (i 20) (c (i 28) (c (i 40) (c (i 30) (c3 (i 56) (i 30) (i 66)))))))))) (c (.node (.build [.int .i64 0,.int .i64 0,.int .i64 0,
 .int .i64 0,.int .i64 0,.int .i64 0,.int .i64 0,.int .i64 0,.int .i64 0,.int .i64 0] [(0,1),(1,1),(2,1),(3,1),(4,1),(5,1),(6,1),(7,1),
 (8,1),(9,1)]) (c (i 3196) (c (i 0) (c (i 30) (c (i 21) (c (i 28) (c (i 43) (c (i 30) (c3 (i 59) (i 30) (i 70)))))))))) (c3 (.node (.build [.int .i64 0,
 .int .i64 0,.int .i64 0,.int .i64 0,.int .i64 0,.int .i64 0,.int .i64 0,.int .i64 0,.int .i64 0,.int .i64 0] [(0,1),(1,1),(2,1),(3,1),(4,1),
 (5,1),(6,1),(7,1),(8,1),(9,1)]) (c (i 3362) (c (i 0) (c (i 30) (c (i 22) (c (i 28) (c (i 45) (c (i 30) (c3 (i 62) (i 30) (i 74)))))))))) (.node
 (.build [.int .i64 0,.int .i64 0,.int .i64 0,.int .i64 0,.int .i64 0,.int .i64 0,.int .i64 0,.int .i64 0,.int .i64 0,.int .i64 0] [(0,1),(1,1),
 (2,1),(3,1),(4,1),(5,1),(6,1),(7,1),(8,1),(9,1)]) (c (i 3532) (c (i 0) (c (i 30) (c (i 24) (c (i 28) (c (i 47) (c (i 30) (c3 (i 65) (i 30) (i
 77)))))))))) (.node (.build [.int .i64 0,.int .i64 0,.int .i64 0,.int .i64 0,.int .i64 0,.int .i64 0,.int .i64 0,.int .i64 0,.int .i64 0,.int .i64 0]
 [(0,1),(1,1),(2,1),(3,1),(4,1),(5,1),(6,1),(7,1),(8,1),(9,1)]) (c (i 3706) (c (i 0) (c (i 30) (c (i 25) (c (i 28) (c (i 49) (c (i 30) (c3
 (i 68) (i 30) (i 81)))))))))))))))))))))))))))))))))))))))))))))))))] [] [] (some 2) (.alloc [.int .i64 0,.int .i64 0,.int .i64 0,.int .i64 0,.int .i64 0,
 .int .i64 0,.int .i64 0,.int .i64 0,.int .i64 0,.int .i64 0,.int .i64 0,.int .i64 0,.int .i64 0,.int .i64 0,.int .i64 0,.int .i64 0,.int .i64 0,
 .int .i64 0,.int .i64 0,.int .i64 0,.int .i64 0,.int .i64 0,.int .i64 0,.int .i64 0,.int .i64 0,.int .i64 0,.int .i64 0,.int .i64 0,.int .i64 0,
 .int .i64 0,.int .i64 0,.int .i64 0,.int .i64 0,.int .i64 0,.int .i64 0,.int .i64 0,.int .i64 0,.int .i64 0,.int .i64 0,.int .i64 0,.int .i64 0,
 .int .i64 0,.int .i64 0,.int .i64 0,.int .i64 0,.int .i64 0,.int .i64 0,.int .i64 0,.int .i64 0,.int .i64 0,.int .i64 0,.int .i64 0,.int .i64 0,
 .int .i64 0,.int .i64 0,.int .i64 0,.int .i64 0,.int .i64 0,.int .i64 0,.int .i64 0,.int .i64 0,.int .i64 0,.int .i64 0,.int .i64 0,.int .i64 0,
 .int .i64 0,.int .i64 0,.int .i64 0,.int .i64 0,.int .i64 0,.int .i64 0,.int .i64 0,.int .i64 0,.int .i64 0,.int .i64 0,.int .i64 0,.int .i64 0,
 .int .i64 0,.int .i64 0,.int .i64 0,.int .i64 0,.int .i64 0,.int .i64 0,.int .i64 0,.int .i64 0,.int .i64 0,.int .i64 0,.int .i64 0,.int .i64 0,
 .int .i64 0,.int .i64 0,.int .i64 0,.int .i64 0,.int .i64 0,.int .i64 0,.int .i64 0,.int .i64 0,.int .i64 0,.int .i64 0,.int .i64 0,.int .i64 0,
 .int .i64 0,.int .i64 0,.int .i64 0,.int .i64 0,.int .i64 0,.int .i64 0,.int .i64 0,.int .i64 0,.int .i64 0,.int .i64 0,.int .i64 0,.int .i64 0,
 .int .i64 0,.int .i64 0,.int .i64 0,.int .i64 0,.int .i64 0,.int .i64 0,.int .i64 0,.int .i64 0,.int .i64 0,.int .i64 0,.int .i64 0,.int .i64 0,
 .int .i64 0,.int .i64 0,.int .i64 0,.int .i64 0,.int .i64 0,.int .i64 0,.int .i64 0,.int .i64 0,.int .i64 0,.int .i64 0,.int .i64 0,.int .i64 0,
 .int .i64 0,.int .i64 0,.int .i64 0,.int .i64 0,.int .i64 0,.int .i64 0,.int .i64 0,.int .i64 0,.int .i64 0,.int .i64 0,.int .i64 0,.int .i64 0,
 .int .i64 0,.int .i64 0,.int .i64 0,.int .i64 0,.int .i64 0,.int .i64 0,.int .i64 0,.int .i64 0,.int .i64 0,.int .i64 0,.int .i64 0,.int .i64 0,
 .int .i64 0,.int .i64 0,.int .i64 0,.int .i64 0,.int .i64 0,.int .i64 0,.int .i64 0,.int .i64 0,.int .i64 0,.int .i64 0,.int .i64 0,.int .i64 0,
 .int .i64 0,.int .i64 0,.int .i64 0,.int .i64 0,.int .i64 0,.int .i64 0,.int .i64 0,.int .i64 0,.int .i64 0,.int .i64 0,.int .i64 0,.int .i64 0,
 .int .i64 0,.int .i64 0,.int .i64 0,.int .i64 0,.int .i64 0,.int .i64 0,.int .i64 0,.int .i64 0,.int .i64 0,.int .i64 0,.int .i64 0,.int .i64 0,
 .int .i64 0,.int .i64 0,.int .i64 0,.int .i64 0,.int .i64 0,.int .i64 0,.int .i64 0,.int .i64 0,.int .i64 0,.int .i64 0,.int .i64 0,.int .i64 0,
 .int .i64 0,.int .i64 0,.int .i64 0,.int .i64 0,.int .i64 0,.int .i64 0,.int .i64 0,.int .i64 0,.int .i64 0,.int .i64 0,.int .i64 0,.int .i64 0,
 .int .i64 0,.int .i64 0,.int .i64 0,.int .i64 0,.int .i64 0,.int .i64 0,.int .i64 0,.int .i64 0,.int .i64 0,.int .i64 0,.int .i64 0,.int .i64 0,
 .int .i64 0,.int .i64 0,.int .i64 0,.int .i64 0,.int .i64 0,.int .i64 0,.int .i64 0,.int .i64 0,.int .i64 0,.int .i64 0,.int .i64 0,.int .i64 0,
 .int .i64 0,.int .i64 0,.int .i64 0,.int .i64 0,.int .i64 0,.int .i64 0,.int .i64 0,.int .i64 0,.int .i64 0,.int .i64 0,.int .i64 0,.int .i64 0,
 .int .i64 0,.int .i64 0,.int .i64 0,.int .i64 0,.int .i64 0,.int .i64 0,.int .i64 0,.int .i64 0,.int .i64 0,.int .i64 0,.int .i64 0,.int .i64 0,
 .int .i64 0,.int .i64 0,.int .i64 0,.int .i64 0,.int .i64 0,.int .i64 0,.int .i64 0,.int .i64 0,.int .i64 0,.int .i64 0,.int .i64 0,.int .i64 0,
 .int .i64 0,.int .i64 0,.int .i64 0,.int .i64 0,.int .i64 0,.int .i64 0,.int .i64 0,.int .i64 0,.int .i64 0,.int .i64 0,.int .i64 0,.int .i64 0,
 .int .i64 0,.int .i64 0,.int .i64 0,.int .i64 0,.int .i64 0,.int .i64 0,.int .i64 0,.int .i64 0,.int .i64 0,.int .i64 0,.int .i64 0,.int .i64 0,
 .int .i64 0,.int .i64 0,.int .i64 0,.int .i64 0,.int .i64 0,.int .i64 0,.int .i64 0,.int .i64 0,.int .i64 0,.int .i64 0,.int .i64 0,.int .i64 0,
 .int .i64 0,.int .i64 0,.int .i64 0,.int .i64 0,.int .i64 0,.int .i64 0,.int .i64 0,.int .i64 0,.int .i64 0,.int .i64 0,.int .i64 0,.int .i64 0,
 .int .i64 0,.int .i64 0,.int .i64 0,.int .i64 0,.int .i64 0,.int .i64 0,.int .i64 0,.int .i64 0,.int .i64 0,.int .i64 0,.int .i64 0,.int .i64 0,
 .int .i64 0,.int .i64 0,.int .i64 0,.int .i64 0,.int .i64 0,.int .i64 0,.int .i64 0,.int .i64 0,.int .i64 0,.int .i64 0,.int .i64 0,.int .i64 0,
 .int .i64 0,.int .i64 0,.int .i64 0,.int .i64 0,.int .i64 0,.int .i64 0,.int .i64 0,.int .i64 0,.int .i64 0,.int .i64 0,.int .i64 0,.int .i64 0,
 .int .i64 0,.int .i64 0,.int .i64 0,.int .i64 0,.int .i64 0,.int .i64 0,.int .i64 0,.int .i64 0,.int .i64 0,.int .i64 0,.int .i64 0,.int .i64 0,
 .int .i64 0,.int .i64 0,.int .i64 0,.int .i64 0,.int .i64 0,.int .i64 0,.int .i64 0,.int .i64 0,.int .i64 0,.int .i64 0,.int .i64 0,.int .i64 0,
 .int .i64 0,.int .i64 0,.int .i64 0,.int .i64 0,.int .i64 0,.int .i64 0,.int .i64 0,.int .i64 0,.int .i64 0,.int .i64 0,.int .i64 0]) .nil) (.hv []
 [] [] none (.st 400) (c2 (x 2) (x 3)))) (q (.hv [] [] [] none (.st 10) (c2 (x 1) (n1 (.ld 10 true) (n2 (.iAddrA 40 10) (x 2) (b .sub (x 0) (i 1)))))) .ret))
def cf55:CF:=⟨1,4,[(.node (.ld 10 true) (.cons (.var 1) .nil))],bd55⟩
def tr55:List Nat:=[0,2,3,44]
def bd56:Stm:=
 q (q (h 1 .box (c1 (x 0))) (s [(2,.cst (.bool false))])) (q (.cond (b .eql (ld (fa 2 (x 1))) (i 0)) (q (q (.hv [(3,p (p (b .gtr (ld (fa 1 (x 1))) (i 2)) (b
 .leq (ld (fa 1 (x 1))) (i 4096)) (.cst (.bool false))) (n2 (.eqA false [1,1,1]) (n1 (.ld 3 true) (x 1)) (n2 (.build [.int .i64 0,.int .i64 0,.int .i64 0]
 [(0,1),(1,1)]) (ld (fa 1 (x 1))) (ld (fa 1 (x 1))))) (.cst (.bool false)))] [] [(p (p (b .gtr (ld (fa 1 (x 1))) (i 2)) (b .leq (ld (fa 1 (x 1))) (i 4096))
 (.cst (.bool false))) (n2 (.eqA false [1,1,1]) (n1 (.ld 3 true) (x 1)) (n2 (.build [.int .i64 0,.int .i64 0,.int .i64 0] [(0,1),(1,1)]) (ld (fa 1 (x
 1))) (ld (fa 1 (x 1))))) (.cst (.bool false)),true)] (some 4) (.call false) (c2 (.cst (.func (.func 78) #[] #[])) (ld (fa 1 (x 1))))) (s [(2,p (x 3) (x 4)
 (.cst (.bool false)))])) .ret) .skip) (q (q (.hv [(5,b .lss (ld (fa 2 (x 1))) (i 2))] [] [(b .lss (ld (fa 2 (x 1))) (i 2),false)] (some 6) (.call false) (c2
 (.cst (.func (.func 79) #[] #[])) (ld (fa 2 (x 1))))) (.cond (p (x 5) (.cst (.bool true)) (b .gtr (x 6) (i 12))) (q (s [(2,.cst (.bool false))]) .ret)
 .skip)) (q (q (.hv [(9,ld (fa 2 (x 1))),(7,n1 (.ld 3 true) (x 1))] [] [] (some 8) (.call true) (c2 (.cst (.func (.func 79) #[] #[])) (ld (fa 2 (x 1))))) (q
 (.hv [(10,n2 (.eqA false [1,1,1]) (x 7) (.node (.build [.int .i64 0,.int .i64 0,.int .i64 0] [(0,1),(1,1),(2,1)]) (c3 (i 2) (b .shl (i 1) (x 8)) (x
 9))))] [] [(n2 (.eqA false [1,1,1]) (x 7) (.node (.build [.int .i64 0,.int .i64 0,.int .i64 0] [(0,1),(1,1),(2,1)]) (c3 (i 2) (b .shl (i 1) (x 8)) (x
 9))),true)] (some 11) (.call false) (c2 (.cst (.func (.func 80) #[] #[])) (ld (fa 2 (x 1))))) (s [(2,p (x 10) (x 11) (.cst (.bool false)))]))) .ret)))
def cf56:CF:=⟨1,12,[(.var 2)],bd56⟩
def tr56:List Nat:=[0,1,2,23,26,31,34,37,40,43,46,49]
def bd57:Stm:=
 q (q (h 3 .box (c1 (x 0))) (s [(4,.cst (.bool false))])) (q (s [(4,p (p (p (b .geq (x 1) (i 1)) (b .leq (x 1) (b .sub (ld (fa 1 (x 3))) (i 2))) (.cst (.bool
 false))) (b .geq (x 2) (i 0)) (.cst (.bool false))) (b .leq (x 2) (b .sub (ld (fa 1 (x 3))) (i 2))) (.cst (.bool false)))]) .ret)
def cf57:CF:=⟨3,5,[(.var 4)],bd57⟩
def tr57:List Nat:=[0,1,2,3,6]
def bd58:Stm:=
 q (q (h 2 .box (c1 (x 0))) (s [(3,.cst (.bool false))])) (q (q (s [(7,i 0),(6,n1 .len (x 1)),(5,x 1)]) (.block 0 (.loop (q (.cond (b .lss (x 7) (x 6))
 .skip (.exit 0)) (q (.block 1 (q (s [(4,ld (n2 (.iAddr 1) (x 5) (x 7)))]) (.cond (p (b .lss (x 4) (i 0)) (.cst (.bool true)) (b .geq (x 4) (ld (fa 1 (x
 2))))) (q (s [(3,.cst (.bool false))]) .ret) .skip))) (s [(7,b .add (x 7) (i 1))])))))) (q (s [(3,.cst (.bool true))]) .ret))
def cf58:CF:=⟨2,8,[(.var 3)],bd58⟩
def tr58:List Nat:=[0,1,2,4,6,7,8,9]
def bd59:Stm:=
 q (q (h 1 .box (c1 (x 0))) (h 2 (.alloc [.int .i64 0,.int .i64 0,.slice none 0 0,.slice none 0 0]) .nil)) (q (q (cl 7 81 (c1 (n1 (.ld 3 true) (x 1)))) (.sets
 [(3,ix 0 (x 7))] [ix 1 (x 7)])) (q (q (.hv [(11,ld (fa 1 (x 1))),(9,ld (fa 1 (x 1))),(8,ld (fa 0 (x 1)))] [] [] (some 10) (.mkSl [.int .i64 0]) (c2 (b
 .sub (ld (fa 1 (x 1))) (i 1)) (b .sub (ld (fa 1 (x 1))) (i 1)))) (q (h 12 (.mkSl [.int .i64 0]) (c2 (x 11) (x 11))) (q (.hv [(13,.node (.build [.int .i64 0,
 .int .i64 0,.slice none 0 0,.slice none 0 0] [(0,1),(1,1),(2,1),(3,1)]) (c (x 8) (c3 (x 9) (x 10) (x 12))))] [] [] (some 4) (.alloc [.int .i64 0,
 .int .i64 0,.slice none 0 0,.slice none 0 0]) .nil) (.hv [] [] [] none (.st 4) (c2 (x 4) (x 13)))))) (q (s [(5,i 1)]) (q (q (s [(15,i 0),(14,n1 .len (ld
 (fa 2 (x 4))))]) (.block 0 (.loop (q (.cond (b .lss (x 15) (x 14)) .skip (.exit 0)) (q (.block 1 (q (s [(6,x 15)]) (q (q (.hv [(20,n2 (.iAddr 1) (ld (fa 2
 (x 4))) (x 6)),(19,x 6),(18,x 5),(17,ld (fa 3 (x 4))),(16,fa 3 (x 4))] [] [] none (.st 1) (c2 (n2 (.iAddr 1) (ld (fa 2 (x 4))) (x 6)) (x 5))) (q (.hv
 [] [] [] none (.st 1) (c2 (n2 (.iAddr 1) (x 17) (x 18)) (x 19))) (.dist (x 20) (x 16)))) (q (cl 21 82 (c3 (n1 (.ld 3 true) (x 1)) (x 5) (x 3))) (.sets [(5,ix
 0 (x 21))] [ix 1 (x 21)]))))) (s [(15,b .add (x 15) (i 1))])))))) (q (.hv [] [] [] none (.st 4) (c2 (x 2) (n1 (.ld 4 true) (x 4)))) .ret)))))
def cf59:CF:=⟨1,22,[(.node (.ld 4 true) (.cons (.var 2) .nil))],bd59⟩
def tr59:List Nat:=[0,1,2,3,5,6,7,10,14,16,20,22,23,24,27,28,34,35,36,38,39,45]
def bd60:Stm:=
 q (q (h 2 .box (c1 (x 0))) (s [(3,i 0)])) (q (s [(3,ld (n2 (.iAddr 1) (ld (fa 2 (x 2))) (b .rem (x 1) (b .sub (ld (fa 1 (x 2))) (i 1)))))]) .ret)
def cf60:CF:=⟨2,4,[(.var 3)],bd60⟩
def tr60:List Nat:=[0,1,2,4]
def bd61:Stm:=
 q (q (h 2 .box (c1 (x 0))) (s [(4,i 0),(3,.cst (.slice none 0 0))])) (q (q (cl 8 62 (c2 (n1 (.ld 3 true) (x 2)) (.cst (.slice none 0 0)))) (q (.hv [(9,n1
 (.un .not) (x 8))] [] [(n1 (.un .not) (x 8),false)] (some 10) (.call false) (c3 (.cst (.func (.func 83) #[] #[])) (n1 (.ld 3 true) (x 2)) (x 1))) (.cond (p
 (x 9) (.cst (.bool true)) (n1 (.un .not) (x 10))) (q (s [(4,i 1),(3,.cst (.slice none 0 0))]) .ret) .skip))) (q (.cond (b .gtr (n1 .len (x 1)) (i 4096)) (q
 (s [(4,i 4),(3,.cst (.slice none 0 0))]) .ret) .skip) (q (q (cl 11 63 (c1 (n1 (.ld 3 true) (x 2)))) (q (h 5 (.alloc [.int .i64 0,.int .i64 0,.slice none
 0 0,.slice none 0 0]) .nil) (.hv [] [] [] none (.st 4) (c2 (x 5) (x 11))))) (q (q (h 12 (.bSl [.int .i64 0] 1 [0]) (c1 (i 1))) (s [(6,x 12)])) (q (q (s
 [(15,i 0),(14,n1 .len (x 1)),(13,x 1)]) (.block 0 (.loop (q (.cond (b .lss (x 15) (x 14)) .skip (.exit 0)) (q (.block 1 (q (s [(7,ld (n2 (.iAddr 1) (x
 13) (x 15)))]) (q (cl 16 84 (c (n1 (.ld 4 true) (x 5)) (c3 (x 6) (x 7) (i 0)))) (s [(6,x 16)])))) (s [(15,b .add (x 15) (i 1))])))))) (q (s [(4,i 0),(3,x
 6)]) .ret))))))
def cf61:CF:=⟨2,17,[(.var 3),(.var 4)],bd61⟩
def tr61:List Nat:=[0,1,2,4,5,6,7,9,11,13,16,23,24,25,26,27,34]
def bd62:Stm:=
 q (q (h 2 .box (c1 (x 0))) (s [(3,.cst (.bool false))])) (q (q (cl 6 56 (c1 (n1 (.ld 3 true) (x 2)))) (.cond (n1 (.un .not) (x 6)) (q (s [(3,.cst (.bool
 false))]) .ret) .skip)) (q (q (s [(9,i 0),(8,n1 .len (x 1)),(7,x 1)]) (.block 0 (.loop (q (.cond (b .lss (x 9) (x 8)) .skip (.exit 0)) (q (.block 1 (q (s
 [(4,ld (n2 (.iAddr 1) (x 7) (x 9)))]) (q (s [(5,n1 .len (x 4))]) (q (.hv [(10,p (b .gtr (x 5) (i 4097)) (.cst (.bool true)) (p (b .gtr (x 5) (i 0)) (b .eql
 (ld (n2 (.iAddr 1) (x 4) (b .sub (x 5) (i 1)))) (i 0)) (.cst (.bool false))))] [] [(p (b .gtr (x 5) (i 4097)) (.cst (.bool true)) (p (b .gtr (x 5) (i 0)) (b
 .eql (ld (n2 (.iAddr 1) (x 4) (b .sub (x 5) (i 1)))) (i 0)) (.cst (.bool false))),false)] (some 11) (.call false) (c3 (.cst (.func (.func 83) #[] #[])) (n1
 (.ld 3 true) (x 2)) (x 4))) (.cond (p (x 10) (.cst (.bool true)) (n1 (.un .not) (x 11))) (q (s [(3,.cst (.bool false))]) .ret) .skip))))) (s [(9,b .add (x
 9) (i 1))])))))) (q (s [(3,.cst (.bool true))]) .ret)))
def cf62:CF:=⟨2,12,[(.var 3)],bd62⟩
def tr62:List Nat:=[0,1,2,4,6,7,9,11,12,13,33,36]
def bd63:Stm:=
 q (q (h 1 .box (c1 (x 0))) (h 2 (.alloc [.int .i64 0,.int .i64 0,.slice none 0 0,.slice none 0 0]) .nil)) (q (q (cl 7 81 (c1 (n1 (.ld 3 true) (x 1)))) (.sets
 [(3,ix 0 (x 7))] [ix 1 (x 7)])) (q (q (.hv [(11,ld (fa 1 (x 1))),(9,ld (fa 1 (x 1))),(8,ld (fa 0 (x 1)))] [] [] (some 10) (.mkSl [.int .i64 0]) (c2 (b
 .sub (ld (fa 1 (x 1))) (i 1)) (b .sub (ld (fa 1 (x 1))) (i 1)))) (q (h 12 (.mkSl [.int .i64 0]) (c2 (x 11) (x 11))) (q (.hv [(13,.node (.build [.int .i64 0,
 .int .i64 0,.slice none 0 0,.slice none 0 0] [(0,1),(1,1),(2,1),(3,1)]) (c (x 8) (c3 (x 9) (x 10) (x 12))))] [] [] (some 4) (.alloc [.int .i64 0,
 .int .i64 0,.slice none 0 0,.slice none 0 0]) .nil) (.hv [] [] [] none (.st 4) (c2 (x 4) (x 13)))))) (q (s [(5,i 1)]) (q (q (s [(15,i 0),(14,n1 .len (ld
 (fa 2 (x 4))))]) (.block 0 (.loop (q (.cond (b .lss (x 15) (x 14)) .skip (.exit 0)) (q (.block 1 (q (s [(6,x 15)]) (q (q (.hv [(20,n2 (.iAddr 1) (ld (fa 2
 (x 4))) (x 6)),(19,x 6),(18,x 5),(17,ld (fa 3 (x 4))),(16,fa 3 (x 4))] [] [] none (.st 1) (c2 (n2 (.iAddr 1) (ld (fa 2 (x 4))) (x 6)) (x 5))) (q (.hv
 [] [] [] none (.st 1) (c2 (n2 (.iAddr 1) (x 17) (x 18)) (x 19))) (.dist (x 20) (x 16)))) (q (cl 21 82 (c3 (n1 (.ld 3 true) (x 1)) (x 5) (x 3))) (.sets [(5,ix
 0 (x 21))] [ix 1 (x 21)]))))) (s [(15,b .add (x 15) (i 1))])))))) (q (.hv [] [] [] none (.st 4) (c2 (x 2) (n1 (.ld 4 true) (x 4)))) .ret)))))
def cf63:CF:=⟨1,22,[(.node (.ld 4 true) (.cons (.var 2) .nil))],bd63⟩
def tr63:List Nat:=[0,1,2,3,5,6,7,10,14,16,20,22,23,24,27,28,34,35,36,38,39,45]
def bd64:Stm:=
 q (q (h 3 .box (c1 (x 0))) (s [(5,.cst (.slice none 0 0)),(4,.cst (.slice none 0 0))])) (q (q (h 11 (.app 1 [.int .i64 0]) (c2 (.cst (.slice none 0 0)) (x
 1))) (s [(5,x 11)])) (q (s [(6,b .sub (n1 .len (x 2)) (i 1))]) (q (.cond (b .gtr (n1 .len (x 1)) (x 6)) (q (h 12 (.mkSl [.int .i64 0]) (c2 (b .sub (n1 .len
 (x 1)) (x 6)) (b .sub (n1 .len (x 1)) (x 6)))) (s [(4,x 12)])) .skip) (q (q (s [(7,b .sub (n1 .len (x 4)) (i 1))]) (.block 0 (.loop (q (.cond (b .geq (x 7)
 (i 0)) .skip (.exit 0)) (q (.block 1 (q (q (cl 13 85 (c3 (n1 (.ld 4 true) (x 3)) (ld (n2 (.iAddr 1) (x 5) (b .add (x 7) (x 6)))) (ld (n2 (.iAddr 1) (x 2) (x
 6))))) (s [(8,x 13)])) (q (.hv [] [] [] none (.st 1) (c2 (n2 (.iAddr 1) (x 4) (x 7)) (x 8))) (q (s [(16,i 0),(15,n1 .len (x 2)),(14,x 2)]) (.block 2
 (.loop (q (.cond (b .lss (x 16) (x 15)) .skip (.exit 2)) (q (.block 3 (q (s [(10,ld (n2 (.iAddr 1) (x 14) (x 16))),(9,x 16)]) (q (.hv [(20,ld (n2 (.iAddr
 1) (x 5) (b .add (x 7) (x 9)))),(19,n1 (.ld 4 true) (x 3)),(18,b .add (x 7) (x 9)),(17,x 5)] [] [] (some 21) (.call true) (c (.cst (.func (.func 87) #[]
 #[])) (c3 (n1 (.ld 4 true) (x 3)) (x 8) (x 10)))) (q (cl 22 86 (c3 (x 19) (x 20) (x 21))) (.hv [] [] [] none (.st 1) (c2 (n2 (.iAddr 1) (x 17) (x 18)) (x
 22))))))) (s [(16,b .add (x 16) (i 1))]))))))))) (s [(7,b .sub (x 7) (i 1))])))))) (q (q (.hv [(23,x 4)] [] [] (some 24) (.call false) (c2 (.cst (.func
 (.func 38) #[] #[])) (x 5))) (s [(5,x 24),(4,x 23)])) .ret)))))
def cf64:CF:=⟨3,25,[(.var 4),(.var 5)],bd64⟩
def tr64:List Nat:=[0,1,2,3,6,7,8,9,10,11,12,14,26,45,50,51,52,57,60,61,67,71,72,75,77]
def bd65:Stm:=
 q (q (h 2 .box (c1 (x 0))) (s [(3,.cst (.bool false))])) (q (q (cl 5 56 (c1 (n1 (.ld 3 true) (x 2)))) (.cond (n1 (.un .not) (x 5)) (q (s [(3,.cst (.bool
 false))]) .ret) .skip)) (q (q (s [(8,i 0),(7,n1 .len (x 1)),(6,x 1)]) (.block 0 (.loop (q (.cond (b .lss (x 8) (x 7)) .skip (.exit 0)) (q (.block 1 (q (s
 [(4,ld (n2 (.iAddr 1) (x 6) (x 8)))]) (.cond (p (b .lss (x 4) (i 0)) (.cst (.bool true)) (b .geq (x 4) (ld (fa 1 (x 2))))) (q (s [(3,.cst (.bool false))])
 .ret) .skip))) (s [(8,b .add (x 8) (i 1))])))))) (q (s [(3,.cst (.bool true))]) .ret)))
def cf65:CF:=⟨2,9,[(.var 3)],bd65⟩
def tr65:List Nat:=[0,1,2,4,6,8,10,11,12]
def bd66:Stm:=
 q (q (h 1 .box (c1 (x 0))) (s [(2,.cst (.bool false))])) (q (.cond (b .eql (ld (fa 0 (x 1))) (i 2)) (q (q (cl 4 88 (c1 (ld (fa 1 (x 1))))) (s [(3,x 4)])) (q
 (q (.hv [(5,p (p (p (b .geq (x 3) (i 1)) (b .leq (x 3) (i 12)) (.cst (.bool false))) (b .eql (ld (fa 1 (x 1))) (b .shl (i 1) (n1 (.cvt .u64) (x 3)))) (.cst
 (.bool false))) (b .lss (ld (fa 2 (x 1))) (b .shl (i 1) (n1 (.cvt .u64) (b .add (x 3) (i 1))))) (.cst (.bool false)))] [] [(p (p (p (b .geq (x 3) (i 1)) (b
 .leq (x 3) (i 12)) (.cst (.bool false))) (b .eql (ld (fa 1 (x 1))) (b .shl (i 1) (n1 (.cvt .u64) (x 3)))) (.cst (.bool false))) (b .lss (ld (fa 2 (x 1))) (b
 .shl (i 1) (n1 (.cvt .u64) (b .add (x 3) (i 1))))) (.cst (.bool false)),true)] (some 6) (.call false) (c3 (.cst (.func (.func 89) #[] #[])) (ld (fa 2 (x 1)))
 (x 3))) (s [(2,p (x 5) (x 6) (.cst (.bool false)))])) .ret)) .skip) (q (q (.hv [(7,p (p (p (b .eql (ld (fa 0 (x 1))) (ld (fa 1 (x 1)))) (b .eql (ld (fa 2 (x
 1))) (i 0)) (.cst (.bool false))) (b .geq (ld (fa 1 (x 1))) (i 3)) (.cst (.bool false))) (b .leq (ld (fa 1 (x 1))) (i 4096)) (.cst (.bool false)))] [] [(p (p
 (p (b .eql (ld (fa 0 (x 1))) (ld (fa 1 (x 1)))) (b .eql (ld (fa 2 (x 1))) (i 0)) (.cst (.bool false))) (b .geq (ld (fa 1 (x 1))) (i 3)) (.cst (.bool false)))
 (b .leq (ld (fa 1 (x 1))) (i 4096)) (.cst (.bool false)),true)] (some 8) (.call false) (c2 (.cst (.func (.func 90) #[] #[])) (ld (fa 1 (x 1))))) (s [(2,p (x
 7) (x 8) (.cst (.bool false)))])) .ret))
def cf66:CF:=⟨1,9,[(.var 2)],bd66⟩
def tr66:List Nat:=[0,1,2,3,9,33,37,59,62]
def bd67:Stm:=
 q (q (h 2 .box (c1 (x 0))) (s [(3,.cst (.bool false))])) (q (s [(3,p (b .geq (x 1) (i 0)) (b .lss (x 1) (ld (fa 1 (x 2)))) (.cst (.bool false)))]) .ret)
def cf67:CF:=⟨2,4,[(.var 3)],bd67⟩
def tr67:List Nat:=[0,1,2,4]
def bd68:Stm:=
 q (q (h 1 .box (c1 (x 0))) (s [(2,.cst (.slice none 0 0))])) (q (q (cl 7 91 (c1 (n1 (.ld 3 true) (fa 0 (x 1))))) (s [(3,x 7)])) (q (s [(4,.cst (.slice none 0
 0))]) (q (q (cl 8 92 (c3 (n1 (.ld 3 true) (fa 0 (x 1))) (x 3) (ld (fa 4 (x 1))))) (s [(5,x 8)])) (q (q (s [(6,i 0)]) (.block 0 (.loop (q (.cond (b .lss (x
 6) (ld (fa 3 (x 1)))) .skip (.exit 0)) (q (.block 1 (q (q (.hv [(9,x 4)] [] [] (some 10) (.bSl [.int .i64 0] 1 [0]) (c1 (x 5))) (q (h 11 (.app 1 [.int .i64
 0]) (c2 (x 9) (x 10))) (s [(4,x 11)]))) (q (cl 12 49 (c3 (n1 (.ld 3 true) (fa 0 (x 1))) (x 5) (x 3))) (s [(5,x 12)])))) (s [(6,b .add (x 6) (i 1))]))))))
 (q (s [(2,x 4)]) .ret)))))
def cf68:CF:=⟨1,13,[(.var 2)],bd68⟩
def tr68:List Nat:=[0,1,2,3,4,5,6,9,15,22,24,25,30]
def bd69:Stm:=
 q (q (h 4 .box (c1 (x 0))) (s [(5,.cst (.slice none 0 0))])) (q (q (h 9 (.mkSl [.int .i64 0]) (c2 (n2 (.minmax false) (x 3) (n2 (.minmax true) (i 0) (b .sub (b
 .add (n1 .len (x 1)) (n1 .len (x 2))) (i 1)))) (n2 (.minmax false) (x 3) (n2 (.minmax true) (i 0) (b .sub (b .add (n1 .len (x 1)) (n1 .len (x 2))) (i 1))))))
 (s [(6,x 9)])) (q (q (s [(7,i 0)]) (.block 0 (.loop (q (.cond (b .lss (x 7) (n1 .len (x 1))) .skip (.exit 0)) (q (.block 1 (q (s [(8,i 0)]) (.block 2
 (.loop (q (.cond (p (b .lss (x 8) (n1 .len (x 2))) (b .lss (b .add (x 7) (x 8)) (n1 .len (x 6))) (.cst (.bool false))) .skip (.exit 2)) (q (.block 3 (q (.hv
 [(13,ld (n2 (.iAddr 1) (x 6) (b .add (x 7) (x 8)))),(12,n1 (.ld 3 true) (x 4)),(11,b .add (x 7) (x 8)),(10,x 6)] [] [] (some 14) (.call true) (c (.cst
 (.func (.func 49) #[] #[])) (c3 (n1 (.ld 3 true) (x 4)) (ld (n2 (.iAddr 1) (x 1) (x 7))) (ld (n2 (.iAddr 1) (x 2) (x 8)))))) (q (cl 15 47 (c3 (x 12) (x 13) (x
 14))) (.hv [] [] [] none (.st 1) (c2 (n2 (.iAddr 1) (x 10) (x 11)) (x 15)))))) (s [(8,b .add (x 8) (i 1))]))))))) (s [(7,b .add (x 7) (i 1))])))))) (q (s
 [(5,x 6)]) .ret)))
def cf69:CF:=⟨4,16,[(.var 5)],bd69⟩
def tr69:List Nat:=[0,1,2,3,4,8,9,10,11,21,42,45,46,52,62,63]
def bd70:Stm:=
 q (s [(2,i 0)]) (q (q (cl 5 88 (c1 (x 1))) (s [(3,x 5)])) (q (q (q (cl 6 88 (c1 (x 0))) (s [(4,x 6)])) (.block 0 (.loop (q (.cond (b .geq (x 4) (x 3)) .skip
 (.exit 0)) (q (.block 1 (.cond (b .eql (b .and (b .shr (x 0) (n1 (.cvt .u64) (x 4))) (i 1)) (i 1)) (s [(0,b .xor (x 0) (b .shl (x 1) (n1 (.cvt .u64) (b .sub
 (x 4) (x 3)))))]) .skip)) (s [(4,b .sub (x 4) (i 1))])))))) (q (s [(2,x 0)]) .ret)))
def cf70:CF:=⟨2,7,[(.var 2)],bd70⟩
def tr70:List Nat:=[0,1,4,5,6,8,10]
def bd71:Stm:=
 q (s [(1,.cst (.bool false))]) (q (q (h 4 (.bSl [.nilFunc] 6 [0,1,2,3,4,5]) (c (n1 (.mkF 93 1) (x 0)) (c (n1 (.mkF 94 1) (x 0)) (c (n1 (.mkF 95 1) (x 0))
 (c3 (n1 (.mkF 96 1) (x 0)) (n1 (.mkF 97 1) (x 0)) (n1 (.mkF 98 1) (x 0))))))) (s [(2,x 4)])) (q (q (s [(7,i 0),(6,n1 .len (x 2)),(5,x 2)]) (.block 0
 (.loop (q (.cond (b .lss (x 7) (x 6)) .skip (.exit 0)) (q (.block 1 (q (s [(3,ld (n2 (.iAddr 1) (x 5) (x 7)))]) (q (h 8 (.call false) (c1 (x 3))) (.cond (n1
 (.un .not) (x 8)) (q (s [(1,.cst (.bool false))]) .ret) .skip)))) (s [(7,b .add (x 7) (i 1))])))))) (q (s [(1,.cst (.bool true))]) .ret)))
def cf71:CF:=⟨1,9,[(.var 1)],bd71⟩
def tr71:List Nat:=[0,2,3,5,18,19,20,21,26]
def bd72:Stm:=
 q (q (h 2 .box (c1 (x 0))) (s [(3,.cst (.slice none 0 0))])) (q (q (cl 7 68 (c1 (n1 (.ld 5 true) (x 2)))) (s [(4,x 7)])) (q (s [(5,.cst (.slice none 0 0))])
 (q (q (s [(6,i 0)]) (.block 0 (.loop (q (.cond (b .lss (x 6) (n1 .len (x 4))) .skip (.exit 0)) (q (.block 1 (q (.hv [(8,x 5)] [] [] (some 9) (.call false)
 (c (.cst (.func (.func 99) #[] #[])) (c3 (n1 (.ld 3 true) (fa 0 (x 2))) (x 1) (ld (n2 (.iAddr 1) (x 4) (x 6)))))) (q (h 10 (.bSl [.int .i64 0] 1 [0]) (c1 (x
 9))) (q (h 11 (.app 1 [.int .i64 0]) (c2 (x 8) (x 10))) (s [(5,x 11)]))))) (s [(6,b .add (x 6) (i 1))])))))) (q (s [(3,x 5)]) .ret))))
def cf72:CF:=⟨2,12,[(.var 3)],bd72⟩
def tr72:List Nat:=[0,1,2,4,5,6,7,9,16,24,25,26]
def bd73:Stm:=
 q (q (h 2 .box (c1 (x 0))) (s [(3,.cst (.slice none 0 0))])) (q (q (cl 8 91 (c1 (n1 (.ld 3 true) (x 2)))) (s [(4,x 8)])) (q (q (h 9 (.mkSl [.int .i64 0]) (c2
 (x 1) (x 1))) (s [(5,x 9)])) (q (s [(6,i 1)]) (q (q (s [(7,b .sub (x 1) (i 1))]) (.block 0 (.loop (q (.cond (b .geq (x 7) (i 0)) .skip (.exit 0)) (q
 (.block 1 (q (.hv [] [] [] none (.st 1) (c2 (n2 (.iAddr 1) (x 5) (x 7)) (x 6))) (q (cl 10 49 (c3 (n1 (.ld 3 true) (x 2)) (x 6) (x 4))) (s [(6,x 10)])))) (s
 [(7,b .sub (x 7) (i 1))])))))) (q (s [(3,x 5)]) .ret)))))
def cf73:CF:=⟨2,11,[(.var 3)],bd73⟩
def tr73:List Nat:=[0,1,2,4,5,6,7,8,10,12,26]
def bd74:Stm:=
 q (q (h 2 .box (c1 (x 0))) (s [(4,i 0),(3,.cst (.slice none 0 0))])) (q (q (h 14 (.bSl [.int .i64 0] 1 [0]) (c1 (i 1))) (q (h 15 (.bSl [.int .i64 0] 1 [0])
 (c1 (i 1))) (s [(6,x 15),(5,x 14)]))) (q (s [(9,i 1),(8,i 1),(7,i 0)]) (q (q (s [(10,i 0)]) (.block 0 (.loop (q (.cond (b .lss (x 10) (n1 .len (x
 1))) .skip (.exit 0)) (q (.block 1 (q (s [(11,i 0)]) (q (q (s [(12,i 0)]) (.block 2 (.loop (q (.cond (b .leq (x 12) (x 7)) .skip (.exit 2)) (q (.block 3 (q
 (.hv [(20,ld (n2 (.iAddr 1) (x 1) (b .sub (x 10) (x 12)))),(18,n1 (.ld 3 true) (x 2)),(17,x 11),(16,n1 (.ld 3 true) (x 2))] [] [] (some 19) (.call
 true) (c3 (.cst (.func (.func 100) #[] #[])) (x 5) (x 12))) (q (h 21 (.call true) (c (.cst (.func (.func 49) #[] #[])) (c3 (x 18) (x 19) (x 20)))) (q (cl 22
 47 (c3 (x 16) (x 17) (x 21))) (s [(11,x 22)]))))) (s [(12,b .add (x 12) (i 1))])))))) (q (.cond (b .eql (x 11) (i 0)) (q (s [(8,b .add (x 8) (i 1))])
 (.exit 1)) .skip) (q (q (.hv [(30,x 8),(27,x 11),(26,n1 (.ld 3 true) (x 2)),(25,x 6),(24,x 5),(23,n1 (.ld 3 true) (x 2))] [] [] (some 28) (.call
 true) (c3 (.cst (.func (.func 76) #[] #[])) (n1 (.ld 3 true) (x 2)) (x 9))) (q (h 29 (.call true) (c (.cst (.func (.func 49) #[] #[])) (c3 (x 26) (x 27) (x
 28)))) (q (cl 31 101 (c (x 23) (c (x 24) (c3 (x 25) (x 29) (x 30))))) (s [(13,x 31)])))) (q (.cond (b .leq (b .mul (i 2) (x 7)) (x 10)) (q (s [(6,x 5)]) (q
 (s [(7,b .sub (b .add (x 10) (i 1)) (x 7))]) (q (s [(9,x 11)]) (s [(8,i 1)])))) (s [(8,b .add (x 8) (i 1))])) (s [(5,x 13)]))))))) (s [(10,b .add (x 10)
 (i 1))])))))) (q (.block 4 (.loop (q (.cond (b .eql (ld (n2 (.iAddr 1) (x 5) (b .sub (n1 .len (x 5)) (i 1)))) (i 0)) .skip (.exit 4)) (.block 5 (s [(5,n2
 (.sl 1 false true false) (x 5) (b .sub (n1 .len (x 5)) (i 1)))]))))) (q (s [(4,x 7),(3,x 5)]) .ret)))))
def cf74:CF:=⟨2,32,[(.var 3),(.var 4)],bd74⟩
def tr74:List Nat:=[0,1,2,4,5,6,7,8,9,10,11,12,13,14,15,16,28,29,30,33,39,40,41,46,47,48,49,50,53,54,55,56]
def bd75:Stm:=
 q (q (h 3 .box (c1 (x 0))) (s [(4,i 0)])) (q (s [(5,i 0)]) (q (q (s [(6,b .sub (n1 .len (x 1)) (i 1))]) (.block 0 (.loop (q (.cond (b .geq (x 6) (i 0)) .skip
 (.exit 0)) (q (.block 1 (q (.hv [(9,ld (n2 (.iAddr 1) (x 1) (x 6))),(7,n1 (.ld 3 true) (x 3))] [] [] (some 8) (.call true) (c (.cst (.func (.func 49) #[]
 #[])) (c3 (n1 (.ld 3 true) (x 3)) (x 5) (x 2)))) (q (cl 10 47 (c3 (x 7) (x 8) (x 9))) (s [(5,x 10)])))) (s [(6,b .sub (x 6) (i 1))])))))) (q (s [(4,x 5)])
 .ret)))
def cf75:CF:=⟨3,11,[(.var 4)],bd75⟩
def tr75:List Nat:=[0,1,2,3,6,7,8,16,20,24,25]
def bd76:Stm:=
 q (q (h 2 .box (c1 (x 0))) (s [(3,i 0)])) (q (q (cl 4 92 (c3 (n1 (.ld 3 true) (x 2)) (x 1) (b .sub (ld (fa 1 (x 2))) (i 2)))) (s [(3,x 4)])) .ret)
def cf76:CF:=⟨2,5,[(.var 3)],bd76⟩
def tr76:List Nat:=[0,1,2,4,10]
def bd77:Stm:=
 q (q (h 4 .box (c1 (x 0))) (s [(5,.cst (.slice none 0 0))])) (q (q (h 14 (.bSl [.int .i64 0] 1 [0]) (c1 (i 1))) (s [(6,x 14)])) (q (q (s [(7,i 0)]) (.block 0
 (.loop (q (.cond (b .lss (x 7) (n1 .len (x 2))) .skip (.exit 0)) (q (.block 1 (q (.hv [(19,b .add (n1 .len (x 6)) (i 1)),(16,x 6),(15,n1 (.ld 3 true) (x
 4))] [] [] (some 17) (.call true) (c (.cst (.func (.func 48) #[] #[])) (c3 (n1 (.ld 3 true) (x 4)) (i 0) (ld (n2 (.iAddr 1) (x 2) (x 7)))))) (q (h 18 (.bSl
 [.int .i64 0] 2 [0,1]) (c2 (i 1) (x 17))) (q (cl 20 69 (c (x 15) (c3 (x 16) (x 18) (x 19)))) (s [(6,x 20)]))))) (s [(7,b .add (x 7) (i 1))])))))) (q (q (cl
 21 69 (c (n1 (.ld 3 true) (x 4)) (c3 (x 1) (x 6) (n1 .len (x 1))))) (s [(8,x 21)])) (q (s [(9,.cst (.slice none 0 0))]) (q (q (s [(10,i 0)]) (.block 2
 (.loop (q (.cond (b .lss (x 10) (n1 .len (x 2))) .skip (.exit 2)) (q (.block 3 (q (q (cl 22 76 (c2 (n1 (.ld 3 true) (x 4)) (ld (n2 (.iAddr 1) (x 2) (x 10)))))
 (s [(11,x 22)])) (q (q (cl 23 92 (c3 (n1 (.ld 3 true) (x 4)) (ld (n2 (.iAddr 1) (x 2) (x 10))) (x 3))) (s [(12,x 23)])) (q (q (s [(13,i 0)]) (.block 4
 (.loop (q (.cond (b .lss (x 13) (n1 .len (x 2))) .skip (.exit 4)) (q (.block 5 (.cond (b .neq (x 13) (x 10)) (q (.hv [(26,n1 (.ld 3 true) (x 4)),(25,x 12),
 (24,n1 (.ld 3 true) (x 4))] [] [] (some 27) (.call true) (c (.cst (.func (.func 49) #[] #[])) (c3 (n1 (.ld 3 true) (x 4)) (ld (n2 (.iAddr 1) (x 2) (x 13)))
 (x 11)))) (q (h 28 (.call true) (c (.cst (.func (.func 48) #[] #[])) (c3 (x 26) (i 1) (x 27)))) (q (cl 29 49 (c3 (x 24) (x 25) (x 28))) (s [(12,x 29)]))))
 .skip)) (s [(13,b .add (x 13) (i 1))])))))) (q (.hv [(34,x 12),(33,n1 (.ld 3 true) (x 4)),(31,n1 (.ld 3 true) (x 4)),(30,x 9)] [] [] (some 32) (.call
 true) (c (.cst (.func (.func 75) #[] #[])) (c3 (n1 (.ld 3 true) (x 4)) (x 8) (x 11)))) (q (h 35 (.call true) (c3 (.cst (.func (.func 76) #[] #[])) (x 33) (x
 34))) (q (cl 36 49 (c3 (x 31) (x 32) (x 35))) (q (h 37 (.bSl [.int .i64 0] 1 [0]) (c1 (x 36))) (q (h 38 (.app 1 [.int .i64 0]) (c2 (x 30) (x 37))) (s [(9,x
 38)])))))))))) (s [(10,b .add (x 10) (i 1))])))))) (q (s [(5,x 9)]) .ret))))))
def cf77:CF:=⟨4,39,[(.var 5)],bd77⟩
def tr77:List Nat:=[0,1,2,3,4,8,9,10,11,12,13,14,15,16,17,24,25,31,32,35,36,42,54,61,71,72,73,80,81,82,83,84,88,89,90,91,92,93,94]
def bd78:Stm:=
 q (s [(1,.cst (.bool false))]) (q (q (s [(2,i 2)]) (.block 0 (.loop (q (.cond (b .leq (b .mul (x 2) (x 2)) (x 0)) .skip (.exit 0)) (q (.block 1 (.cond (b .eql
 (b .rem (x 0) (x 2)) (i 0)) (q (s [(1,.cst (.bool false))]) .ret) .skip)) (s [(2,b .add (x 2) (i 1))])))))) (q (s [(1,.cst (.bool true))]) .ret))
def cf78:CF:=⟨1,3,[(.var 1)],bd78⟩
def tr78:List Nat:=[0,2,3]
def bd79:Stm:=
 q (s [(1,i 0)]) (q (q (cl 2 102 (c1 (n1 (.cvt .u64) (x 0)))) (s [(1,b .sub (x 2) (i 1))])) .ret)
def cf79:CF:=⟨1,3,[(.var 1)],bd79⟩
def tr79:List Nat:=[0,2,5]
def bd80:Stm:=
 q (s [(1,.cst (.bool false))]) (q (q (s [(2,i 2)]) (.block 0 (.loop (q (q (cl 3 79 (c1 (x 2))) (q (.hv [(4,b .mul (i 2) (x 3))] [] [] (some 5) (.call false)
 (c2 (.cst (.func (.func 79) #[] #[])) (x 0))) (.cond (b .leq (x 4) (x 5)) .skip (.exit 0)))) (q (.block 1 (q (cl 6 103 (c2 (x 0) (x 2))) (.cond (b .eql (x 6)
 (i 0)) (q (s [(1,.cst (.bool false))]) .ret) .skip))) (s [(2,b .add (x 2) (i 1))])))))) (q (s [(1,.cst (.bool true))]) .ret))
def cf80:CF:=⟨1,7,[(.var 1)],bd80⟩
def tr80:List Nat:=[0,2,3,5,6,8,14]
def bd81:Stm:=
 q (q (h 1 .box (c1 (x 0))) (s [(3,i 0),(2,i 0)])) (q (q (cl 4 65 (c2 (n1 (.ld 3 true) (x 1)) (.cst (.slice none 0 0)))) (.cond (n1 (.un .not) (x 4)) (q (s
 [(3,i 1),(2,i 0)]) .ret) .skip)) (q (q (cl 5 104 (c1 (n1 (.ld 3 true) (x 1)))) (s [(3,i 0),(2,x 5)])) .ret))
def cf81:CF:=⟨1,6,[(.var 2),(.var 3)],bd81⟩
def tr81:List Nat:=[0,1,2,3,5,8]
def bd82:Stm:=
 q (q (h 3 .box (c1 (x 0))) (s [(5,i 0),(4,i 0)])) (q (q (.hv [(6,n1 (.ld 3 true) (x 3))] [] [] (some 7) (.bSl [.int .i64 0] 2 [0,1]) (c2 (x 1) (x 2))) (q
 (cl 8 65 (c2 (x 6) (x 7))) (.cond (n1 (.un .not) (x 8)) (q (s [(5,i 1),(4,i 0)]) .ret) .skip))) (q (q (cl 9 105 (c3 (n1 (.ld 3 true) (x 3)) (x 1) (x 2)))
 (s [(5,i 0),(4,x 9)])) .ret))
def cf82:CF:=⟨3,10,[(.var 4),(.var 5)],bd82⟩
def tr82:List Nat:=[0,1,2,3,6,7,8,11,12,17]
def bd83:Stm:=
 q (q (h 2 .box (c1 (x 0))) (s [(3,.cst (.bool false))])) (q (q (s [(7,i 0),(6,n1 .len (x 1)),(5,x 1)]) (.block 0 (.loop (q (.cond (b .lss (x 7) (x 6))
 .skip (.exit 0)) (q (.block 1 (q (s [(4,ld (n2 (.iAddr 1) (x 5) (x 7)))]) (.cond (p (b .lss (x 4) (i 0)) (.cst (.bool true)) (b .geq (x 4) (ld (fa 1 (x
 2))))) (q (s [(3,.cst (.bool false))]) .ret) .skip))) (s [(7,b .add (x 7) (i 1))])))))) (q (s [(3,.cst (.bool true))]) .ret))
def cf83:CF:=⟨2,8,[(.var 3)],bd83⟩
def tr83:List Nat:=[0,1,2,4,6,7,8,9]
def bd84:Stm:=
 q (q (h 4 .box (c1 (x 0))) (s [(5,.cst (.slice none 0 0))])) (q (q (h 9 (.mkSl [.int .i64 0]) (c2 (b .add (n1 .len (x 1)) (i 1)) (b .add (n1 .len (x 1)) (i
 1)))) (s [(6,x 9)])) (q (.hv [] [] [] none (.st 1) (c2 (n2 (.iAddr 1) (x 6) (i 0)) (x 3))) (q (q (s [(12,i 0),(11,n1 .len (x 1)),(10,x 1)]) (.block 0
 (.loop (q (.cond (b .lss (x 12) (x 11)) .skip (.exit 0)) (q (.block 1 (q (s [(8,ld (n2 (.iAddr 1) (x 10) (x 12))),(7,x 12)]) (q (q (.hv [(16,ld (n2
 (.iAddr 1) (x 6) (x 7))),(15,n1 (.ld 4 true) (x 4)),(14,x 7),(13,x 6)] [] [] (some 17) (.call true) (c (.cst (.func (.func 87) #[] #[])) (c3 (n1 (.ld 4
 true) (x 4)) (x 8) (x 2)))) (q (cl 18 86 (c3 (x 15) (x 16) (x 17))) (.hv [] [] [] none (.st 1) (c2 (n2 (.iAddr 1) (x 13) (x 14)) (x 18))))) (.hv [] [] [] none
 (.st 1) (c2 (n2 (.iAddr 1) (x 6) (b .add (x 7) (i 1))) (x 8)))))) (s [(12,b .add (x 12) (i 1))])))))) (q (s [(5,x 6)]) .ret))))
def cf84:CF:=⟨4,19,[(.var 5)],bd84⟩
def tr84:List Nat:=[0,1,2,3,4,8,9,10,11,15,19,20,21,26,27,28,32,36,37]
def bd85:Stm:=
 q (q (h 3 .box (c1 (x 0))) (s [(4,i 0)])) (q (.cond (b .eql (x 1) (i 0)) (q (s [(4,i 0)]) .ret) .skip) (q (s [(4,ld (n2 (.iAddr 1) (ld (fa 2 (x 3))) (b .rem
 (b .sub (b .add (b .sub (ld (n2 (.iAddr 1) (ld (fa 3 (x 3))) (x 1))) (ld (n2 (.iAddr 1) (ld (fa 3 (x 3))) (x 2)))) (ld (fa 1 (x 3)))) (i 1)) (b .sub (ld (fa 1
 (x 3))) (i 1)))))]) .ret))
def cf85:CF:=⟨3,5,[(.var 4)],bd85⟩
def tr85:List Nat:=[0,1,2,3,6]
def bd86:Stm:=
 q (q (h 3 .box (c1 (x 0))) (s [(4,i 0)])) (q (.cond (b .eql (ld (fa 0 (x 3))) (i 2)) (q (s [(4,b .xor (x 1) (x 2))]) .ret) .skip) (q (s [(4,b .rem (b .add (b
 .sub (x 1) (x 2)) (ld (fa 1 (x 3)))) (ld (fa 1 (x 3))))]) .ret))
def cf86:CF:=⟨3,5,[(.var 4)],bd86⟩
def tr86:List Nat:=[0,1,2,3,6]
def bd87:Stm:=
 q (q (h 3 .box (c1 (x 0))) (s [(4,i 0)])) (q (.cond (p (b .eql (x 1) (i 0)) (.cst (.bool true)) (b .eql (x 2) (i 0))) (q (s [(4,i 0)]) .ret) .skip) (q (s [(4,
 ld (n2 (.iAddr 1) (ld (fa 2 (x 3))) (b .rem (b .add (ld (n2 (.iAddr 1) (ld (fa 3 (x 3))) (x 1))) (ld (n2 (.iAddr 1) (ld (fa 3 (x 3))) (x 2)))) (b .sub (ld (fa
 1 (x 3))) (i 1)))))]) .ret))
def cf87:CF:=⟨3,5,[(.var 4)],bd87⟩
def tr87:List Nat:=[0,1,2,3,6]
def bd88:Stm:=
 q (s [(1,i 0)]) (q (s [(2,i (-1))]) (q (.block 0 (.loop (q (.cond (b .gtr (x 0) (i 0)) .skip (.exit 0)) (.block 1 (q (s [(0,b .quo (x 0) (i 2))]) (s [(2,b
 .add (x 2) (i 1))])))))) (q (s [(1,x 2)]) .ret)))
def cf88:CF:=⟨1,3,[(.var 1)],bd88⟩
def tr88:List Nat:=[0,2,3]
def bd89:Stm:=
 q (s [(2,.cst (.bool false))]) (q (q (.hv [(4,b .lss (x 0) (i 0))] [] [(b .lss (x 0) (i 0),false)] (some 5) (.call false) (c2 (.cst (.func (.func 88) #[]
 #[])) (x 0))) (.cond (p (x 4) (.cst (.bool true)) (b .neq (x 5) (x 1))) (q (s [(2,.cst (.bool false))]) .ret) .skip)) (q (q (s [(3,i 2)]) (.block 0 (.loop
 (q (q (cl 6 88 (c1 (x 3))) (.cond (b .leq (b .mul (i 2) (x 6)) (x 1)) .skip (.exit 0))) (q (.block 1 (q (cl 7 70 (c2 (x 0) (x 3))) (.cond (b .eql (x 7) (i 0))
 (q (s [(2,.cst (.bool false))]) .ret) .skip))) (s [(3,b .add (x 3) (i 1))])))))) (q (s [(2,.cst (.bool true))]) .ret)))
def cf89:CF:=⟨2,8,[(.var 2)],bd89⟩
def tr89:List Nat:=[0,1,4,5,8,10,15,23]
def bd90:Stm:=
 q (s [(1,.cst (.bool false))]) (q (q (s [(2,i 2)]) (.block 0 (.loop (q (.cond (b .leq (b .mul (x 2) (x 2)) (x 0)) .skip (.exit 0)) (q (.block 1 (.cond (b .eql
 (b .rem (x 0) (x 2)) (i 0)) (q (s [(1,.cst (.bool false))]) .ret) .skip)) (s [(2,b .add (x 2) (i 1))])))))) (q (s [(1,b .geq (x 0) (i 2))]) .ret))
def cf90:CF:=⟨1,3,[(.var 1)],bd90⟩
def tr90:List Nat:=[0,2,3]
def bd91:Stm:=
 q (q (h 1 .box (c1 (x 0))) (s [(2,i 0)])) (q (q (s [(3,i 1)]) (.block 0 (.loop (q (.cond (b .lss (x 3) (ld (fa 1 (x 1)))) .skip (.exit 0)) (q (.block 1 (q
 (.hv [(5,b .sub (ld (fa 1 (x 1))) (i 1))] [] [] (some 4) (.call true) (c3 (.cst (.func (.func 106) #[] #[])) (n1 (.ld 3 true) (x 1)) (x 3))) (.cond (b .eql
 (x 4) (x 5)) (q (s [(2,x 3)]) .ret) .skip))) (s [(3,b .add (x 3) (i 1))])))))) (q (s [(2,i 0)]) .ret))
def cf91:CF:=⟨1,6,[(.var 2)],bd91⟩
def tr91:List Nat:=[0,1,2,3,12,15]
def bd92:Stm:=
 q (q (h 3 .box (c1 (x 0))) (s [(4,i 0)])) (q (s [(5,i 1)]) (q (.block 0 (.loop (q (.cond (b .gtr (x 2) (i 0)) .skip (.exit 0)) (.block 1 (q (.cond (b .eql (b
 .rem (x 2) (i 2)) (i 1)) (q (cl 6 49 (c3 (n1 (.ld 3 true) (x 3)) (x 5) (x 1))) (s [(5,x 6)])) .skip) (q (q (cl 7 49 (c3 (n1 (.ld 3 true) (x 3)) (x 1) (x 1)))
 (s [(1,x 7)])) (s [(2,b .quo (x 2) (i 2))]))))))) (q (s [(4,x 5)]) .ret)))
def cf92:CF:=⟨3,8,[(.var 4)],bd92⟩
def tr92:List Nat:=[0,1,2,3,6,7,16,20]
def bd93:Stm:=
 q (s [(1,.cst (.bool false))]) (q (q (.hv [(2,x 0)] [] [] (some 3) (.call false) (c (.cst (.func (.func 107) #[] #[])) (c3 (n1 (.ld 4 true) (fa 0 (n1 .nilChk
 (x 0)))) (n1 (.ld 5 true) (fa 4 (n1 .nilChk (x 0)))) (ld (fa 9 (n1 .nilChk (x 0))))))) (.hv [] [] [] none (.st 1) (c2 (fa 12 (n1 .nilChk (x 2))) (x 3)))) (q
 (s [(1,b .leq (ld (fa 11 (n1 .nilChk (x 0)))) (ld (fa 3 (fa 4 (n1 .nilChk (x 0))))))]) .ret))
def cf93:CF:=⟨1,4,[(.var 1)],bd93⟩
def tr93:List Nat:=[0,2,3,16]
def bd94:Stm:=
 q (s [(1,.cst (.bool false))]) (q (q (.hv [(4,x 0)] [] [] (some 5) (.bSl [.int .i64 0] 1 [0]) (c1 (i 1))) (.hv [] [] [] none (.st 1) (c2 (fa 13 (n1 .nilChk (x
 4))) (x 5)))) (q (q (s [(8,i 0),(7,n1 .len (ld (fa 10 (n1 .nilChk (x 0))))),(6,ld (fa 10 (n1 .nilChk (x 0))))]) (.block 0 (.loop (q (.cond (b .lss (x 8)
 (x 7)) .skip (.exit 0)) (q (.block 1 (q (s [(3,ld (n2 (.iAddr 1) (x 6) (x 8))),(2,x 8)]) (.cond (x 3) (q (.hv [(13,n1 (.ld 4 true) (fa 0 (n1 .nilChk (x
 0)))),(12,ld (fa 13 (n1 .nilChk (x 0)))),(11,ld (fa 13 (n1 .nilChk (x 0)))),(10,n1 (.ld 4 true) (fa 0 (n1 .nilChk (x 0)))),(9,x 0)] [] [] (some 14)
 (.call true) (c3 (.cst (.func (.func 109) #[] #[])) (x 0) (x 2))) (q (h 15 (.call true) (c3 (.cst (.func (.func 60) #[] #[])) (x 13) (x 14))) (q (cl 16 108 (c
 (x 10) (c (x 11) (c3 (x 12) (i 1) (x 15))))) (.hv [] [] [] none (.st 1) (c2 (fa 13 (n1 .nilChk (x 9))) (x 16)))))) .skip))) (s [(8,b .add (x 8) (i 1))]))))))
 (q (s [(1,.cst (.bool true))]) .ret)))
def cf94:CF:=⟨1,17,[(.var 1)],bd94⟩
def tr94:List Nat:=[0,2,3,4,5,6,12,13,14,20,24,28,32,36,39,40,41]
def bd95:Stm:=
 q (s [(1,.cst (.bool false))]) (q (q (cl 3 110 (c (n1 (.ld 4 true) (fa 0 (n1 .nilChk (x 0)))) (c3 (ld (fa 12 (n1 .nilChk (x 0)))) (ld (fa 13 (n1 .nilChk (x
 0)))) (ld (fa 3 (fa 4 (n1 .nilChk (x 0)))))))) (s [(2,x 3)])) (q (q (.hv [(4,x 0)] [] [] (some 5) (.call false) (c3 (.cst (.func (.func 111) #[] #[])) (n1
 (.ld 4 true) (fa 0 (n1 .nilChk (x 0)))) (n2 (.sl 1 true false false) (x 2) (ld (fa 11 (n1 .nilChk (x 0))))))) (.hv [] [] [] none (.st 1) (c2 (fa 14 (n1
 .nilChk (x 4))) (x 5)))) (q (s [(1,b .leq (b .add (b .mul (i 2) (b .sub (n1 .len (ld (fa 14 (n1 .nilChk (x 0))))) (i 1))) (ld (fa 11 (n1 .nilChk (x 0)))))
 (ld (fa 3 (fa 4 (n1 .nilChk (x 0))))))]) .ret)))
def cf95:CF:=⟨1,6,[(.var 1)],bd95⟩
def tr95:List Nat:=[0,2,3,21,22,33]
def bd96:Stm:=
 q (s [(1,.cst (.bool false))]) (q (s [(2,i 0)]) (q (q (s [(8,i 0),(7,n1 .len (ld (fa 10 (n1 .nilChk (x 0))))),(6,ld (fa 10 (n1 .nilChk (x 0))))]) (.block
 0 (.loop (q (.cond (b .lss (x 8) (x 7)) .skip (.exit 0)) (q (.block 1 (q (s [(4,ld (n2 (.iAddr 1) (x 6) (x 8))),(3,x 8)]) (q (q (.hv [(10,b .sub (ld (fa 1
 (fa 0 (n1 .nilChk (x 0))))) (i 1)),(9,n1 (.ld 4 true) (fa 0 (n1 .nilChk (x 0))))] [] [] (some 11) (.call true) (c3 (.cst (.func (.func 109) #[] #[])) (x 0)
 (x 3))) (q (cl 12 60 (c2 (x 9) (b .sub (x 10) (x 11)))) (s [(5,x 12)]))) (q (.hv [(13,n1 (.un .not) (x 4))] [] [(n1 (.un .not) (x 4),true)] (some 14)
 (.call false) (c (.cst (.func (.func 112) #[] #[])) (c3 (n1 (.ld 4 true) (fa 0 (n1 .nilChk (x 0)))) (ld (fa 14 (n1 .nilChk (x 0)))) (x 5)))) (.cond (p (x 13)
 (b .eql (x 14) (i 0)) (.cst (.bool false))) (q (s [(2,b .add (x 2) (i 1))]) (q (.hv [(16,ld (fa 15 (n1 .nilChk (x 0)))),(15,x 0)] [] [] (some 17) (.bSl
 [.int .i64 0] 1 [0]) (c1 (x 3))) (q (h 18 (.app 1 [.int .i64 0]) (c2 (x 16) (x 17))) (.hv [] [] [] none (.st 1) (c2 (fa 15 (n1 .nilChk (x 15))) (x 18))))))
 (.cond (x 4) (q (.hv [(20,ld (fa 15 (n1 .nilChk (x 0)))),(19,x 0)] [] [] (some 21) (.bSl [.int .i64 0] 1 [0]) (c1 (x 3))) (q (h 22 (.app 1 [.int .i64 0])
 (c2 (x 20) (x 21))) (.hv [] [] [] none (.st 1) (c2 (fa 15 (n1 .nilChk (x 19))) (x 22))))) .skip)))))) (s [(8,b .add (x 8) (i 1))])))))) (q (s [(1,b .eql (x
 2) (b .sub (n1 .len (ld (fa 14 (n1 .nilChk (x 0))))) (i 1)))]) .ret)))
def cf96:CF:=⟨1,23,[(.var 1)],bd96⟩
def tr96:List Nat:=[0,2,3,4,5,6,10,11,12,20,26,29,31,34,44,49,53,55,56,60,64,66,67]
def bd97:Stm:=
 q (s [(1,.cst (.bool false))]) (q (q (cl 9 110 (c (n1 (.ld 4 true) (fa 0 (n1 .nilChk (x 0)))) (c3 (ld (fa 13 (n1 .nilChk (x 0)))) (ld (fa 14 (n1 .nilChk (x
 0)))) (b .sub (b .add (n1 .len (ld (fa 13 (n1 .nilChk (x 0))))) (n1 .len (ld (fa 14 (n1 .nilChk (x 0)))))) (i 1))))) (s [(2,x 9)])) (q (q (cl 10 110 (c (n1
 (.ld 4 true) (fa 0 (n1 .nilChk (x 0)))) (c3 (ld (fa 12 (n1 .nilChk (x 0)))) (x 2) (ld (fa 3 (fa 4 (n1 .nilChk (x 0)))))))) (s [(3,x 10)])) (q (q (cl 11 113
 (c2 (n1 (.ld 4 true) (fa 0 (n1 .nilChk (x 0)))) (x 2))) (s [(4,x 11)])) (q (q (s [(14,i 0),(13,n1 .len (ld (fa 15 (n1 .nilChk (x 0))))),(12,ld (fa 15
 (n1 .nilChk (x 0))))]) (.block 0 (.loop (q (.cond (b .lss (x 14) (x 13)) .skip (.exit 0)) (q (.block 1 (q (s [(5,ld (n2 (.iAddr 1) (x 12) (x 14)))]) (q (q
 (.hv [(16,b .sub (ld (fa 1 (fa 0 (n1 .nilChk (x 0))))) (i 1)),(15,n1 (.ld 4 true) (fa 0 (n1 .nilChk (x 0))))] [] [] (some 17) (.call true) (c3 (.cst (.func
 (.func 109) #[] #[])) (x 0) (x 5))) (q (cl 18 60 (c2 (x 15) (b .sub (x 16) (x 17)))) (s [(6,x 18)]))) (q (q (.hv [(21,b .sub (b .add (ld (fa 4 (fa 4 (n1
 .nilChk (x 0))))) (ld (fa 1 (fa 0 (n1 .nilChk (x 0)))))) (i 2)),(19,n1 (.ld 4 true) (fa 0 (n1 .nilChk (x 0))))] [] [] (some 20) (.call true) (c3 (.cst
 (.func (.func 109) #[] #[])) (x 0) (x 5))) (q (cl 22 60 (c2 (x 19) (b .mul (x 20) (x 21)))) (s [(7,x 22)]))) (q (q (.hv [(24,x 7),(23,n1 (.ld 4 true) (fa
 0 (n1 .nilChk (x 0))))] [] [] (some 25) (.call true) (c (.cst (.func (.func 112) #[] #[])) (c3 (n1 (.ld 4 true) (fa 0 (n1 .nilChk (x 0)))) (x 4) (x 6)))) (q
 (cl 26 114 (c3 (x 23) (x 24) (x 25))) (s [(8,x 26)]))) (q (.cond (b .eql (x 8) (i 0)) (q (s [(1,.cst (.bool false))]) .ret) .skip) (q (.hv [(33,x 8),(31,
 n1 (.ld 4 true) (fa 0 (n1 .nilChk (x 0)))),(30,ld (n2 (.iAddr 1) (ld (fa 9 (n1 .nilChk (x 0)))) (x 5))),(29,n1 (.ld 4 true) (fa 0 (n1 .nilChk (x 0)))),
 (28,x 5),(27,ld (fa 9 (n1 .nilChk (x 0))))] [] [] (some 32) (.call true) (c (.cst (.func (.func 112) #[] #[])) (c3 (n1 (.ld 4 true) (fa 0 (n1 .nilChk (x
 0)))) (x 3) (x 6)))) (q (h 34 (.call true) (c (.cst (.func (.func 116) #[] #[])) (c3 (x 31) (x 32) (x 33)))) (q (h 35 (.call true) (c (.cst (.func (.func 115)
 #[] #[])) (c3 (x 29) (x 30) (x 34)))) (.hv [] [] [] none (.st 1) (c2 (n2 (.iAddr 1) (x 27) (x 28)) (x 35)))))))))))) (s [(14,b .add (x 14) (i 1))])))))) (q
 (s [(1,.cst (.bool true))]) .ret)))))
def cf97:CF:=⟨1,36,[(.var 1)],bd97⟩
def tr97:List Nat:=[0,2,3,4,5,7,8,9,10,35,50,56,60,61,62,69,75,78,80,84,87,99,101,105,106,113,114,120,121,125,132,136,143,144,145,146]
def bd98:Stm:=
 q (s [(1,.cst (.bool false))]) (q (q (q (.hv [(5,i 0)] [] [] (some 3) (.call false) (c (.cst (.func (.func 107) #[] #[])) (c3 (n1 (.ld 4 true) (fa 0 (n1
 .nilChk (x 0)))) (n1 (.ld 5 true) (fa 4 (n1 .nilChk (x 0)))) (ld (fa 9 (n1 .nilChk (x 0))))))) (s [(4,n1 .len (x 3))])) (.block 0 (.loop (q (.cond (b .lss (x
 5) (x 4)) .skip (.exit 0)) (q (.block 1 (q (s [(2,ld (n2 (.iAddr 1) (x 3) (x 5)))]) (.cond (b .neq (x 2) (i 0)) (q (s [(1,.cst (.bool false))]) .ret)
 .skip))) (s [(5,b .add (x 5) (i 1))])))))) (q (s [(1,.cst (.bool true))]) .ret))
def cf98:CF:=⟨1,6,[(.var 1)],bd98⟩
def tr98:List Nat:=[0,2,4,17,18,19]
def bd99:Stm:=
 q (q (h 3 .box (c1 (x 0))) (s [(4,i 0)])) (q (s [(5,i 0)]) (q (q (s [(6,i 0)]) (.block 0 (.loop (q (.cond (b .lss (x 6) (n1 .len (x 1))) .skip (.exit 0)) (q
 (.block 1 (q (.hv [(9,ld (n2 (.iAddr 1) (x 1) (x 6))),(7,n1 (.ld 3 true) (x 3))] [] [] (some 8) (.call true) (c (.cst (.func (.func 49) #[] #[])) (c3 (n1
 (.ld 3 true) (x 3)) (x 5) (x 2)))) (q (cl 10 47 (c3 (x 7) (x 8) (x 9))) (s [(5,x 10)])))) (s [(6,b .add (x 6) (i 1))])))))) (q (s [(4,x 5)]) .ret)))
def cf99:CF:=⟨3,11,[(.var 4)],bd99⟩
def tr99:List Nat:=[0,1,2,3,6,7,8,15,19,23,24]
def bd100:Stm:=
 q (s [(2,i 0)]) (q (.cond (b .lss (x 1) (n1 .len (x 0))) (q (s [(2,ld (n2 (.iAddr 1) (x 0) (x 1)))]) .ret) .skip) (q (s [(2,i 0)]) .ret))
def cf100:CF:=⟨2,3,[(.var 2)],bd100⟩
def tr100:List Nat:=[0,1,4]
def bd101:Stm:=
 q (q (h 5 .box (c1 (x 0))) (s [(6,.cst (.slice none 0 0))])) (q (q (h 10 (.mkSl [.int .i64 0]) (c2 (n2 (.minmax true) (n1 .len (x 1)) (b .add (n1 .len (x 2))
 (x 4))) (n2 (.minmax true) (n1 .len (x 1)) (b .add (n1 .len (x 2)) (x 4))))) (s [(7,x 10)])) (q (q (s [(8,i 0)]) (.block 0 (.loop (q (.cond (b .lss (x 8)
 (n1 .len (x 7))) .skip (.exit 0)) (q (.block 1 (q (s [(9,i 0)]) (q (.cond (b .geq (x 8) (x 4)) (q (.hv [(12,x 3),(11,n1 (.ld 3 true) (x 5))] [] [] (some
 13) (.call true) (c3 (.cst (.func (.func 100) #[] #[])) (x 2) (b .sub (x 8) (x 4)))) (q (cl 14 49 (c3 (x 11) (x 12) (x 13))) (s [(9,x 14)]))) .skip) (q (.hv
 [(19,x 9),(17,n1 (.ld 3 true) (x 5)),(16,x 8),(15,x 7)] [] [] (some 18) (.call true) (c3 (.cst (.func (.func 100) #[] #[])) (x 1) (x 8))) (q (cl 20 48
 (c3 (x 17) (x 18) (x 19))) (.hv [] [] [] none (.st 1) (c2 (n2 (.iAddr 1) (x 15) (x 16)) (x 20)))))))) (s [(8,b .add (x 8) (i 1))])))))) (q (s [(6,x 7)])
 .ret)))
def cf101:CF:=⟨5,21,[(.var 6)],bd101⟩
def tr101:List Nat:=[0,1,2,3,4,5,10,11,12,13,21,31,32,37,38,39,40,41,44,45,46]
def bd102:Stm:=
 q (q (s [(1,i 0)]) (.cond (.cst (.bool false)) (q (q (cl 2 117 (c1 (n1 (.cvt .u32) (x 0)))) (s [(1,x 2)])) .ret) .skip)) (q (q (cl 3 118 (c1 (x 0))) (s [(1,x
 3)])) .ret)
def cf102:CF:=⟨1,4,[(.var 1)],bd102⟩
def tr102:List Nat:=[0,2,5,7]
def bd103:Stm:=
 q (s [(2,i 0)]) (q (.block 0 (.loop (q (q (cl 3 79 (c1 (x 0))) (q (cl 4 79 (c1 (x 1))) (.cond (b .geq (x 3) (x 4)) .skip (.exit 0)))) (.block 1 (q (.hv [(6,x
 1),(5,x 0)] [] [] (some 7) (.call false) (c2 (.cst (.func (.func 79) #[] #[])) (x 0))) (q (cl 8 79 (c1 (x 1))) (s [(0,b .xor (x 5) (b .shl (x 6) (b .sub (x
 7) (x 8))))]))))))) (q (s [(2,x 0)]) .ret))
def cf103:CF:=⟨2,9,[(.var 2)],bd103⟩
def tr103:List Nat:=[0,1,4,6,8,10,11,13,15]
def bd104:Stm:=
 q (q (h 1 .box (c1 (x 0))) (s [(2,i 0)])) (q (s [(3,i 1)]) (q (.block 0 (.loop (q (q (.hv [(5,b .sub (ld (fa 1 (x 1))) (i 1))] [] [] (some 4) (.call true)
 (c3 (.cst (.func (.func 119) #[] #[])) (n1 (.ld 3 true) (x 1)) (x 3))) (.cond (b .neq (x 4) (x 5)) .skip (.exit 0))) (.block 1 (s [(3,b .add (x 3) (i
 1))]))))) (q (s [(2,x 3)]) .ret)))
def cf104:CF:=⟨1,6,[(.var 2)],bd104⟩
def tr104:List Nat:=[0,1,2,3,6,9]
def bd105:Stm:=
 q (q (h 3 .box (c1 (x 0))) (s [(4,i 0)])) (q (.cond (b .eql (ld (fa 2 (x 3))) (i 0)) (q (s [(4,b .rem (b .mul (x 1) (x 2)) (ld (fa 1 (x 3))))]) .ret) .skip)
 (q (s [(5,i 0)]) (q (.block 0 (.loop (q (.cond (b .gtr (x 2) (i 0)) .skip (.exit 0)) (q (.block 1 (q (.cond (b .eql (b .and (x 2) (i 1)) (i 1)) (s [(5,b
 .xor (x 5) (x 1))]) .skip) (q (s [(1,b .shl (x 1) (.cst (.int .u64 1)))]) (.cond (b .geq (x 1) (ld (fa 1 (x 3)))) (s [(1,b .xor (x 1) (ld (fa 2 (x 3))))])
 .skip)))) (s [(2,b .shr (x 2) (.cst (.int .u64 1)))]))))) (q (s [(4,x 5)]) .ret))))
def cf105:CF:=⟨3,6,[(.var 4)],bd105⟩
def tr105:List Nat:=[0,1,2,3,6,7]
def bd106:Stm:=
 q (q (h 2 .box (c1 (x 0))) (s [(3,i 0)])) (q (s [(5,x 1),(4,i 1)]) (q (.block 0 (.loop (q (.cond (p (b .neq (x 5) (i 1)) (b .lss (x 4) (ld (fa 1 (x 2))))
 (.cst (.bool false))) .skip (.exit 0)) (.block 1 (q (q (cl 6 49 (c3 (n1 (.ld 3 true) (x 2)) (x 5) (x 1))) (s [(5,x 6)])) (s [(4,b .add (x 4) (i 1))]))))))
 (q (s [(3,x 4)]) .ret)))
def cf106:CF:=⟨2,7,[(.var 3)],bd106⟩
def tr106:List Nat:=[0,1,2,4,5,6,19]
def bd107:Stm:=
 q (q (h 3 .box (c1 (x 0))) (q (h 4 .box (c1 (x 1))) (s [(5,.cst (.slice none 0 0))]))) (q (q (h 10 (.mkSl [.int .i64 0]) (c2 (ld (fa 3 (x 4))) (ld (fa 3 (x
 4))))) (s [(6,x 10)])) (q (q (s [(12,i 0),(11,n1 .len (x 6))]) (.block 0 (.loop (q (.cond (b .lss (x 12) (x 11)) .skip (.exit 0)) (q (.block 1 (q (s [(7,
 x 12)]) (q (q (cl 13 60 (c2 (n1 (.ld 4 true) (x 3)) (b .add (ld (fa 4 (x 4))) (x 7)))) (s [(8,x 13)])) (q (s [(16,i 0),(15,n1 .len (x 2)),(14,x 2)])
 (.block 2 (.loop (q (.cond (b .lss (x 16) (x 15)) .skip (.exit 2)) (q (.block 3 (q (s [(9,ld (n2 (.iAddr 1) (x 14) (x 16)))]) (q (.hv [(21,x 9),(19,n1
 (.ld 4 true) (x 3)),(18,x 7),(17,x 6)] [] [] (some 20) (.call true) (c (.cst (.func (.func 114) #[] #[])) (c3 (n1 (.ld 4 true) (x 3)) (ld (n2 (.iAddr 1)
 (x 6) (x 7))) (x 8)))) (q (cl 22 115 (c3 (x 19) (x 20) (x 21))) (.hv [] [] [] none (.st 1) (c2 (n2 (.iAddr 1) (x 17) (x 18)) (x 22))))))) (s [(16,b .add (x
 16) (i 1))]))))))))) (s [(12,b .add (x 12) (i 1))])))))) (q (s [(5,x 6)]) .ret)))
def cf107:CF:=⟨3,23,[(.var 5)],bd107⟩
def tr107:List Nat:=[0,1,2,3,4,6,7,8,9,11,14,16,17,25,26,27,28,32,33,34,41,42,43]
def bd108:Stm:=
 q (q (h 5 .box (c1 (x 0))) (s [(6,.cst (.slice none 0 0))])) (q (q (h 10 (.mkSl [.int .i64 0]) (c2 (n2 (.minmax true) (n1 .len (x 1)) (b .add (n1 .len (x 2))
 (x 3))) (n2 (.minmax true) (n1 .len (x 1)) (b .add (n1 .len (x 2)) (x 3))))) (s [(7,x 10)])) (q (.hv [] [] [] none (.cpy 1) (c2 (x 7) (x 1))) (q (q (s [(13,
 i 0),(12,n1 .len (x 2)),(11,x 2)]) (.block 0 (.loop (q (.cond (b .lss (x 13) (x 12)) .skip (.exit 0)) (q (.block 1 (q (s [(9,ld (n2 (.iAddr 1) (x 11) (x
 13))),(8,x 13)]) (q (.hv [(17,ld (n2 (.iAddr 1) (x 7) (b .add (x 8) (x 3)))),(16,n1 (.ld 4 true) (x 5)),(15,b .add (x 8) (x 3)),(14,x 7)] [] [] (some
 18) (.call true) (c (.cst (.func (.func 114) #[] #[])) (c3 (n1 (.ld 4 true) (x 5)) (x 4) (x 9)))) (q (cl 19 120 (c3 (x 16) (x 17) (x 18))) (.hv [] [] [] none
 (.st 1) (c2 (n2 (.iAddr 1) (x 14) (x 15)) (x 19))))))) (s [(13,b .add (x 13) (i 1))])))))) (q (s [(6,x 7)]) .ret))))
def cf108:CF:=⟨5,20,[(.var 6)],bd108⟩
def tr108:List Nat:=[0,1,2,3,4,5,10,11,12,13,21,25,26,27,32,35,36,42,46,47]
def bd109:Stm:=
 q (s [(2,i 0)]) (q (s [(2,b .sub (b .sub (n1 .len (ld (fa 9 (n1 .nilChk (x 0))))) (i 1)) (x 1))]) .ret)
def cf109:CF:=⟨2,3,[(.var 2)],bd109⟩
def tr109:List Nat:=[0,1,4]
def bd110:Stm:=
 q (q (h 4 .box (c1 (x 0))) (s [(5,.cst (.slice none 0 0))])) (q (q (h 10 (.mkSl [.int .i64 0]) (c2 (x 3) (x 3))) (s [(6,x 10)])) (q (q (s [(13,i 0),(12,n1
 .len (x 1)),(11,x 1)]) (.block 0 (.loop (q (.cond (b .lss (x 13) (x 12)) .skip (.exit 0)) (q (.block 1 (q (s [(8,ld (n2 (.iAddr 1) (x 11) (x 13))),(7,x
 13)]) (q (s [(9,i 0)]) (.block 2 (.loop (q (.cond (p (b .lss (x 9) (n1 .len (x 2))) (b .lss (b .add (x 7) (x 9)) (x 3)) (.cst (.bool false))) .skip (.exit
 2)) (q (.block 3 (q (.hv [(17,ld (n2 (.iAddr 1) (x 6) (b .add (x 7) (x 9)))),(16,n1 (.ld 4 true) (x 4)),(15,b .add (x 7) (x 9)),(14,x 6)] [] [] (some
 18) (.call true) (c (.cst (.func (.func 114) #[] #[])) (c3 (n1 (.ld 4 true) (x 4)) (x 8) (ld (n2 (.iAddr 1) (x 2) (x 9)))))) (q (cl 19 115 (c3 (x 16) (x 17)
 (x 18))) (.hv [] [] [] none (.st 1) (c2 (n2 (.iAddr 1) (x 14) (x 15)) (x 19)))))) (s [(9,b .add (x 9) (i 1))])))))))) (s [(13,b .add (x 13) (i 1))])))))) (q
 (s [(5,x 6)]) .ret)))
def cf110:CF:=⟨4,20,[(.var 5)],bd110⟩
def tr110:List Nat:=[0,1,2,3,4,8,9,10,11,12,14,15,16,17,35,38,39,45,52,53]
def bd111:Stm:=
 q (q (h 2 .box (c1 (x 0))) (s [(3,.cst (.slice none 0 0))])) (q (q (h 14 (.bSl [.int .i64 0] 1 [0]) (c1 (i 1))) (q (h 15 (.bSl [.int .i64 0] 1 [0]) (c1 (i 1)))
 (s [(5,x 15),(4,x 14)]))) (q (s [(8,i 1),(7,i 1),(6,i 0)]) (q (q (s [(17,i 0),(16,n1 .len (x 1))]) (.block 0 (.loop (q (.cond (b .lss (x 17) (x
 16)) .skip (.exit 0)) (q (.block 1 (q (s [(9,x 17)]) (q (s [(10,i 0)]) (q (q (s [(11,i 0)]) (.block 2 (.loop (q (.cond (p (b .leq (x 11) (x 6)) (b .lss (x
 11) (n1 .len (x 4))) (.cst (.bool false))) .skip (.exit 2)) (q (.block 3 (q (.hv [(19,x 10),(18,n1 (.ld 4 true) (x 2))] [] [] (some 20) (.call true) (c
 (.cst (.func (.func 114) #[] #[])) (c3 (n1 (.ld 4 true) (x 2)) (ld (n2 (.iAddr 1) (x 4) (x 11))) (ld (n2 (.iAddr 1) (x 1) (b .sub (x 9) (x 11))))))) (q (cl 21
 115 (c3 (x 18) (x 19) (x 20))) (s [(10,x 21)])))) (s [(11,b .add (x 11) (i 1))])))))) (q (.cond (b .eql (x 10) (i 0)) (q (s [(7,b .add (x 7) (i 1))])
 (.exit 1)) .skip) (q (q (.hv [(25,x 7),(24,x 5),(23,x 4),(22,n1 (.ld 4 true) (x 2))] [] [] (some 26) (.call true) (c (.cst (.func (.func 116) #[] #[]))
 (c3 (n1 (.ld 4 true) (x 2)) (x 10) (x 8)))) (q (cl 27 108 (c (x 22) (c (x 23) (c3 (x 24) (x 25) (x 26))))) (s [(12,x 27)]))) (q (.cond (b .leq (b .mul (i 2)
 (x 6)) (x 9)) (s [(7,i 1),(8,x 10),(6,b .sub (b .add (x 9) (i 1)) (x 6)),(5,x 4)]) (s [(7,b .add (x 7) (i 1))])) (s [(4,x 12)])))))))) (s [(17,b
 .add (x 17) (i 1))])))))) (q (s [(13,n1 .len (x 4))]) (q (.block 4 (.loop (q (.cond (b .eql (ld (n2 (.iAddr 1) (x 4) (b .sub (x 13) (i 1)))) (i 0)) .skip
 (.exit 4)) (.block 5 (s [(13,b .sub (x 13) (i 1))]))))) (q (s [(3,n2 (.sl 1 false true false) (x 4) (x 13))]) .ret))))))
def cf111:CF:=⟨2,28,[(.var 3)],bd111⟩
def tr111:List Nat:=[0,1,2,4,5,6,7,8,9,10,11,12,13,14,15,16,18,19,33,34,46,47,52,53,54,55,59,60]
def bd112:Stm:=
 q (q (h 3 .box (c1 (x 0))) (s [(4,i 0)])) (q (s [(5,i 0)]) (q (q (s [(6,b .sub (n1 .len (x 1)) (i 1))]) (.block 0 (.loop (q (.cond (b .geq (x 6) (i 0)) .skip
 (.exit 0)) (q (.block 1 (q (.hv [(9,ld (n2 (.iAddr 1) (x 1) (x 6))),(7,n1 (.ld 4 true) (x 3))] [] [] (some 8) (.call true) (c (.cst (.func (.func 114) #[]
 #[])) (c3 (n1 (.ld 4 true) (x 3)) (x 5) (x 2)))) (q (cl 10 115 (c3 (x 7) (x 8) (x 9))) (s [(5,x 10)])))) (s [(6,b .sub (x 6) (i 1))])))))) (q (s [(4,x 5)])
 .ret)))
def cf112:CF:=⟨3,11,[(.var 4)],bd112⟩
def tr112:List Nat:=[0,1,2,3,6,7,8,16,20,24,25]
def bd113:Stm:=
 q (q (h 2 .box (c1 (x 0))) (s [(3,.cst (.slice none 0 0))])) (q (s [(4,.cst (.slice none 0 0))]) (q (q (s [(5,i 1)]) (.block 0 (.loop (q (.cond (b .lss (x 5)
 (n1 .len (x 1))) .skip (.exit 0)) (q (.block 1 (q (.hv [(6,x 4)] [] [] (some 7) (.call false) (c (.cst (.func (.func 114) #[] #[])) (c3 (n1 (.ld 4 true) (x
 2)) (b .rem (x 5) (ld (fa 0 (x 2)))) (ld (n2 (.iAddr 1) (x 1) (x 5)))))) (q (h 8 (.bSl [.int .i64 0] 1 [0]) (c1 (x 7))) (q (h 9 (.app 1 [.int .i64 0]) (c2 (x
 6) (x 8))) (s [(4,x 9)]))))) (s [(5,b .add (x 5) (i 1))])))))) (q (s [(3,x 4)]) .ret)))
def cf113:CF:=⟨2,10,[(.var 3)],bd113⟩
def tr113:List Nat:=[0,1,2,4,5,6,13,23,24,25]
def bd114:Stm:=
 q (q (h 3 .box (c1 (x 0))) (s [(4,i 0)])) (q (.cond (p (b .eql (x 1) (i 0)) (.cst (.bool true)) (b .eql (x 2) (i 0))) (q (s [(4,i 0)]) .ret) .skip) (q (s [(4,
 ld (n2 (.iAddr 1) (ld (fa 2 (x 3))) (b .rem (b .add (ld (n2 (.iAddr 1) (ld (fa 3 (x 3))) (x 1))) (ld (n2 (.iAddr 1) (ld (fa 3 (x 3))) (x 2)))) (b .sub (ld (fa
 1 (x 3))) (i 1)))))]) .ret))
def cf114:CF:=⟨3,5,[(.var 4)],bd114⟩
def tr114:List Nat:=[0,1,2,3,6]
def bd115:Stm:=
 q (q (h 3 .box (c1 (x 0))) (s [(4,i 0)])) (q (.cond (b .eql (ld (fa 0 (x 3))) (i 2)) (q (s [(4,b .xor (x 1) (x 2))]) .ret) .skip) (q (s [(4,b .rem (b .add (x
 1) (x 2)) (ld (fa 1 (x 3))))]) .ret))
def cf115:CF:=⟨3,5,[(.var 4)],bd115⟩
def tr115:List Nat:=[0,1,2,3,6]
def bd116:Stm:=
 q (q (h 3 .box (c1 (x 0))) (s [(4,i 0)])) (q (.cond (b .eql (x 1) (i 0)) (q (s [(4,i 0)]) .ret) .skip) (q (s [(4,ld (n2 (.iAddr 1) (ld (fa 2 (x 3))) (b .rem
 (b .sub (b .add (b .sub (ld (n2 (.iAddr 1) (ld (fa 3 (x 3))) (x 1))) (ld (n2 (.iAddr 1) (ld (fa 3 (x 3))) (x 2)))) (ld (fa 1 (x 3)))) (i 1)) (b .sub (ld (fa 1
 (x 3))) (i 1)))))]) .ret))
def cf116:CF:=⟨3,5,[(.var 4)],bd116⟩
def tr116:List Nat:=[0,1,2,3,6]
def bd117:Stm:=
 q (s [(1,i 0)]) (q (.cond (b .geq (x 0) (.cst (.int .u32 65536))) (q (s [(0,b .shr (x 0) (.cst (.int .u64 16)))]) (s [(1,i 16)])) .skip) (q (.cond (b .geq (x
 0) (.cst (.int .u32 256))) (q (s [(0,b .shr (x 0) (.cst (.int .u64 8)))]) (s [(1,b .add (x 1) (i 8))])) .skip) (q (s [(1,b .add (x 1) (n1 (.cvt .i64) (n2
 .idxS (.cst (.string lit0)) (n1 (.cvt .u8) (x 0)))))]) .ret)))
def cf117:CF:=⟨1,2,[(.var 1)],bd117⟩
def tr117:List Nat:=[0,2]
def bd118:Stm:=
 q (s [(1,i 0)]) (q (.cond (b .geq (x 0) (.cst (.int .u64 4294967296))) (q (s [(0,b .shr (x 0) (.cst (.int .u64 32)))]) (s [(1,i 32)])) .skip) (q (.cond (b
 .geq (x 0) (.cst (.int .u64 65536))) (q (s [(0,b .shr (x 0) (.cst (.int .u64 16)))]) (s [(1,b .add (x 1) (i 16))])) .skip) (q (.cond (b .geq (x 0) (.cst
 (.int .u64 256))) (q (s [(0,b .shr (x 0) (.cst (.int .u64 8)))]) (s [(1,b .add (x 1) (i 8))])) .skip) (q (s [(1,b .add (x 1) (n1 (.cvt .i64) (n2 .idxS
 (.cst (.string lit0)) (n1 (.cvt .u8) (x 0)))))]) .ret))))
def cf118:CF:=⟨1,2,[(.var 1)],bd118⟩
def tr118:List Nat:=[0,2]
def bd119:Stm:=
 q (q (h 2 .box (c1 (x 0))) (s [(3,i 0)])) (q (s [(4,i 1)]) (q (q (s [(5,x 1)]) (.block 0 (.loop (q (.cond (b .neq (x 5) (i 1)) .skip (.exit 0)) (q (.block 1
 (s [(4,b .add (x 4) (i 1))])) (q (cl 6 105 (c3 (n1 (.ld 3 true) (x 2)) (x 5) (x 1))) (s [(5,x 6)]))))))) (q (s [(3,x 4)]) .ret)))
def cf119:CF:=⟨2,7,[(.var 3)],bd119⟩
def tr119:List Nat:=[0,1,2,4,5,6,13]
def bd120:Stm:=
 q (q (h 3 .box (c1 (x 0))) (s [(4,i 0)])) (q (.cond (b .eql (ld (fa 0 (x 3))) (i 2)) (q (s [(4,b .xor (x 1) (x 2))]) .ret) .skip) (q (s [(4,b .rem (b .add (b
 .sub (x 1) (x 2)) (ld (fa 1 (x 3)))) (ld (fa 1 (x 3))))]) .ret))
def cf120:CF:=⟨3,5,[(.var 4)],bd120⟩
def tr120:List Nat:=[0,1,2,3,6]
end
theorem is2:compFunc Tryz.prog tr2 2=some cf2:=by kernel_rfl
theorem is3:compFunc Tryz.prog tr3 3=some cf3:=by kernel_rfl
theorem is4:compFunc Tryz.prog tr4 4=some cf4:=by kernel_rfl
theorem is5:compFunc Tryz.prog tr5 5=some cf5:=by kernel_rfl
theorem is6:compFunc Tryz.prog tr6 6=some cf6:=by kernel_rfl
theorem is7:compFunc Tryz.prog tr7 7=some cf7:=by kernel_rfl
theorem is8:compFunc Tryz.prog tr8 8=some cf8:=by kernel_rfl
theorem is9:compFunc Tryz.prog tr9 9=some cf9:=by kernel_rfl
theorem is10:compFunc Tryz.prog tr10 10=some cf10:=by kernel_rfl
theorem is11:compFunc Tryz.prog tr11 11=some cf11:=by kernel_rfl
theorem is12:compFunc Tryz.prog tr12 12=some cf12:=by kernel_rfl
theorem is13:compFunc Tryz.prog tr13 13=some cf13:=by kernel_rfl
theorem is14:compFunc Tryz.prog tr14 14=some cf14:=by kernel_rfl
theorem is15:compFunc Tryz.prog tr15 15=some cf15:=by kernel_rfl
theorem is16:compFunc Tryz.prog tr16 16=some cf16:=by kernel_rfl
theorem is17:compFunc Tryz.prog tr17 17=some cf17:=by kernel_rfl
theorem is18:compFunc Tryz.prog tr18 18=some cf18:=by kernel_rfl
theorem is19:compFunc Tryz.prog tr19 19=some cf19:=by kernel_rfl
theorem is20:compFunc Tryz.prog tr20 20=some cf20:=by kernel_rfl
theorem is21:compFunc Tryz.prog tr21 21=some cf21:=by kernel_rfl
theorem is22:compFunc Tryz.prog tr22 22=some cf22:=by kernel_rfl
theorem is23:compFunc Tryz.prog tr23 23=some cf23:=by kernel_rfl
theorem is24:compFunc Tryz.prog tr24 24=some cf24:=by kernel_rfl
theorem is25:compFunc Tryz.prog tr25 25=some cf25:=by kernel_rfl
theorem is26:compFunc Tryz.prog tr26 26=some cf26:=by kernel_rfl
theorem is27:compFunc Tryz.prog tr27 27=some cf27:=by kernel_rfl
theorem is28:compFunc Tryz.prog tr28 28=some cf28:=by kernel_rfl
theorem is29:compFunc Tryz.prog tr29 29=some cf29:=by kernel_rfl
theorem is30:compFunc Tryz.prog tr30 30=some cf30:=by kernel_rfl
theorem is31:compFunc Tryz.prog tr31 31=some cf31:=by kernel_rfl
theorem is32:compFunc Tryz.prog tr32 32=some cf32:=by kernel_rfl
theorem is33:compFunc Tryz.prog tr33 33=some cf33:=by kernel_rfl
theorem is34:compFunc Tryz.prog tr34 34=some cf34:=by kernel_rfl
theorem is35:compFunc Tryz.prog tr35 35=some cf35:=by kernel_rfl
theorem is36:compFunc Tryz.prog tr36 36=some cf36:=by kernel_rfl
theorem is37:compFunc Tryz.prog tr37 37=some cf37:=by kernel_rfl
theorem is38:compFunc Tryz.prog tr38 38=some cf38:=by kernel_rfl
theorem is39:compFunc Tryz.prog tr39 39=some cf39:=by kernel_rfl
theorem is40:compFunc Tryz.prog tr40 40=some cf40:=by kernel_rfl
theorem is41:compFunc Tryz.prog tr41 41=some cf41:=by kernel_rfl
theorem is42:compFunc Tryz.prog tr42 42=some cf42:=by kernel_rfl
theorem is43:compFunc Tryz.prog tr43 43=some cf43:=by kernel_rfl
theorem is44:compFunc Tryz.prog tr44 44=some cf44:=by kernel_rfl
theorem is45:compFunc Tryz.prog tr45 45=some cf45:=by kernel_rfl
theorem is46:compFunc Tryz.prog tr46 46=some cf46:=by kernel_rfl
theorem is47:compFunc Tryz.prog tr47 47=some cf47:=by kernel_rfl
theorem is48:compFunc Tryz.prog tr48 48=some cf48:=by kernel_rfl
theorem is49:compFunc Tryz.prog tr49 49=some cf49:=by kernel_rfl
theorem is50:compFunc Tryz.prog tr50 50=some cf50:=by kernel_rfl
theorem is51:compFunc Tryz.prog tr51 51=some cf51:=by kernel_rfl
theorem is52:compFunc Tryz.prog tr52 52=some cf52:=by kernel_rfl
theorem is53:compFunc Tryz.prog tr53 53=some cf53:=by kernel_rfl
theorem is54:compFunc Tryz.prog tr54 54=some cf54:=by kernel_rfl
theorem is55:compFunc Tryz.prog tr55 55=some cf55:=by kernel_rfl
theorem is56:compFunc Tryz.prog tr56 56=some cf56:=by kernel_rfl
theorem is57:compFunc Tryz.prog tr57 57=some cf57:=by kernel_rfl
theorem is58:compFunc Tryz.prog tr58 58=some cf58:=by kernel_rfl
theorem is59:compFunc Tryz.prog tr59 59=some cf59:=by kernel_rfl
theorem is60:compFunc Tryz.prog tr60 60=some cf60:=by kernel_rfl
theorem is61:compFunc Tryz.prog tr61 61=some cf61:=by kernel_rfl
theorem is62:compFunc Tryz.prog tr62 62=some cf62:=by kernel_rfl
theorem is63:compFunc Tryz.prog tr63 63=some cf63:=by kernel_rfl
theorem is64:compFunc Tryz.prog tr64 64=some cf64:=by kernel_rfl
theorem is65:compFunc Tryz.prog tr65 65=some cf65:=by kernel_rfl
theorem is66:compFunc Tryz.prog tr66 66=some cf66:=by kernel_rfl
theorem is67:compFunc Tryz.prog tr67 67=some cf67:=by kernel_rfl
theorem is68:compFunc Tryz.prog tr68 68=some cf68:=by kernel_rfl
theorem is69:compFunc Tryz.prog tr69 69=some cf69:=by kernel_rfl
theorem is70:compFunc Tryz.prog tr70 70=some cf70:=by kernel_rfl
theorem is71:compFunc Tryz.prog tr71 71=some cf71:=by kernel_rfl
theorem is72:compFunc Tryz.prog tr72 72=some cf72:=by kernel_rfl
theorem is73:compFunc Tryz.prog tr73 73=some cf73:=by kernel_rfl
theorem is74:compFunc Tryz.prog tr74 74=some cf74:=by kernel_rfl
theorem is75:compFunc Tryz.prog tr75 75=some cf75:=by kernel_rfl
theorem is76:compFunc Tryz.prog tr76 76=some cf76:=by kernel_rfl
theorem is77:compFunc Tryz.prog tr77 77=some cf77:=by kernel_rfl
theorem is78:compFunc Tryz.prog tr78 78=some cf78:=by kernel_rfl
theorem is79:compFunc Tryz.prog tr79 79=some cf79:=by kernel_rfl
theorem is80:compFunc Tryz.prog tr80 80=some cf80:=by kernel_rfl
theorem is81:compFunc Tryz.prog tr81 81=some cf81:=by kernel_rfl
theorem is82:compFunc Tryz.prog tr82 82=some cf82:=by kernel_rfl
theorem is83:compFunc Tryz.prog tr83 83=some cf83:=by kernel_rfl
theorem is84:compFunc Tryz.prog tr84 84=some cf84:=by kernel_rfl
theorem is85:compFunc Tryz.prog tr85 85=some cf85:=by kernel_rfl
theorem is86:compFunc Tryz.prog tr86 86=some cf86:=by kernel_rfl
theorem is87:compFunc Tryz.prog tr87 87=some cf87:=by kernel_rfl
theorem is88:compFunc Tryz.prog tr88 88=some cf88:=by kernel_rfl
theorem is89:compFunc Tryz.prog tr89 89=some cf89:=by kernel_rfl
theorem is90:compFunc Tryz.prog tr90 90=some cf90:=by kernel_rfl
theorem is91:compFunc Tryz.prog tr91 91=some cf91:=by kernel_rfl
theorem is92:compFunc Tryz.prog tr92 92=some cf92:=by kernel_rfl
theorem is93:compFunc Tryz.prog tr93 93=some cf93:=by kernel_rfl
theorem is94:compFunc Tryz.prog tr94 94=some cf94:=by kernel_rfl
theorem is95:compFunc Tryz.prog tr95 95=some cf95:=by kernel_rfl
theorem is96:compFunc Tryz.prog tr96 96=some cf96:=by kernel_rfl
theorem is97:compFunc Tryz.prog tr97 97=some cf97:=by kernel_rfl
theorem is98:compFunc Tryz.prog tr98 98=some cf98:=by kernel_rfl
theorem is99:compFunc Tryz.prog tr99 99=some cf99:=by kernel_rfl
theorem is100:compFunc Tryz.prog tr100 100=some cf100:=by kernel_rfl
theorem is101:compFunc Tryz.prog tr101 101=some cf101:=by kernel_rfl
theorem is102:compFunc Tryz.prog tr102 102=some cf102:=by kernel_rfl
theorem is103:compFunc Tryz.prog tr103 103=some cf103:=by kernel_rfl
theorem is104:compFunc Tryz.prog tr104 104=some cf104:=by kernel_rfl
theorem is105:compFunc Tryz.prog tr105 105=some cf105:=by kernel_rfl
theorem is106:compFunc Tryz.prog tr106 106=some cf106:=by kernel_rfl
theorem is107:compFunc Tryz.prog tr107 107=some cf107:=by kernel_rfl
theorem is108:compFunc Tryz.prog tr108 108=some cf108:=by kernel_rfl
theorem is109:compFunc Tryz.prog tr109 109=some cf109:=by kernel_rfl
theorem is110:compFunc Tryz.prog tr110 110=some cf110:=by kernel_rfl
theorem is111:compFunc Tryz.prog tr111 111=some cf111:=by kernel_rfl
theorem is112:compFunc Tryz.prog tr112 112=some cf112:=by kernel_rfl
theorem is113:compFunc Tryz.prog tr113 113=some cf113:=by kernel_rfl
theorem is114:compFunc Tryz.prog tr114 114=some cf114:=by kernel_rfl
theorem is115:compFunc Tryz.prog tr115 115=some cf115:=by kernel_rfl
theorem is116:compFunc Tryz.prog tr116 116=some cf116:=by kernel_rfl
theorem is117:compFunc Tryz.prog tr117 117=some cf117:=by kernel_rfl
theorem is118:compFunc Tryz.prog tr118 118=some cf118:=by kernel_rfl
theorem is119:compFunc Tryz.prog tr119 119=some cf119:=by kernel_rfl
theorem is120:compFunc Tryz.prog tr120 120=some cf120:=by kernel_rfl
def cp:FuncId→Option CF
 | 2=>some cf2
 | 3=>some cf3
 | 4=>some cf4
 | 5=>some cf5
 | 6=>some cf6
 | 7=>some cf7
 | 8=>some cf8
 | 9=>some cf9
 | 10=>some cf10
 | 11=>some cf11
 | 12=>some cf12
 | 13=>some cf13
 | 14=>some cf14
 | 15=>some cf15
 | 16=>some cf16
 | 17=>some cf17
 | 18=>some cf18
 | 19=>some cf19
 | 20=>some cf20
 | 21=>some cf21
 | 22=>some cf22
 | 23=>some cf23
 | 24=>some cf24
 | 25=>some cf25
 | 26=>some cf26
 | 27=>some cf27
 | 28=>some cf28
 | 29=>some cf29
 | 30=>some cf30
 | 31=>some cf31
 | 32=>some cf32
 | 33=>some cf33
 | 34=>some cf34
 | 35=>some cf35
 | 36=>some cf36
 | 37=>some cf37
 | 38=>some cf38
 | 39=>some cf39
 | 40=>some cf40
 | 41=>some cf41
 | 42=>some cf42
 | 43=>some cf43
 | 44=>some cf44
 | 45=>some cf45
 | 46=>some cf46
 | 47=>some cf47
 | 48=>some cf48
 | 49=>some cf49
 | 50=>some cf50
 | 51=>some cf51
 | 52=>some cf52
 | 53=>some cf53
 | 54=>some cf54
 | 55=>some cf55
 | 56=>some cf56
 | 57=>some cf57
 | 58=>some cf58
 | 59=>some cf59
 | 60=>some cf60
 | 61=>some cf61
 | 62=>some cf62
 | 63=>some cf63
 | 64=>some cf64
 | 65=>some cf65
 | 66=>some cf66
 | 67=>some cf67
 | 68=>some cf68
 | 69=>some cf69
 | 70=>some cf70
 | 71=>some cf71
 | 72=>some cf72
 | 73=>some cf73
 | 74=>some cf74
 | 75=>some cf75
 | 76=>some cf76
 | 77=>some cf77
 | 78=>some cf78
 | 79=>some cf79
 | 80=>some cf80
 | 81=>some cf81
 | 82=>some cf82
 | 83=>some cf83
 | 84=>some cf84
 | 85=>some cf85
 | 86=>some cf86
 | 87=>some cf87
 | 88=>some cf88
 | 89=>some cf89
 | 90=>some cf90
 | 91=>some cf91
 | 92=>some cf92
 | 93=>some cf93
 | 94=>some cf94
 | 95=>some cf95
 | 96=>some cf96
 | 97=>some cf97
 | 98=>some cf98
 | 99=>some cf99
 | 100=>some cf100
 | 101=>some cf101
 | 102=>some cf102
 | 103=>some cf103
 | 104=>some cf104
 | 105=>some cf105
 | 106=>some cf106
 | 107=>some cf107
 | 108=>some cf108
 | 109=>some cf109
 | 110=>some cf110
 | 111=>some cf111
 | 112=>some cf112
 | 113=>some cf113
 | 114=>some cf114
 | 115=>some cf115
 | 116=>some cf116
 | 117=>some cf117
 | 118=>some cf118
 | 119=>some cf119
 | 120=>some cf120
 | _=>none
theorem compiled:Compiled Tryz.prog cp:=by
 intro f cf h
 unfold cp at h
 split at h
 ·cases h;exact⟨_,is2⟩
 ·cases h;exact⟨_,is3⟩
 ·cases h;exact⟨_,is4⟩
 ·cases h;exact⟨_,is5⟩
 ·cases h;exact⟨_,is6⟩
 ·cases h;exact⟨_,is7⟩
 ·cases h;exact⟨_,is8⟩
 ·cases h;exact⟨_,is9⟩
 ·cases h;exact⟨_,is10⟩
 ·cases h;exact⟨_,is11⟩
 ·cases h;exact⟨_,is12⟩
 ·cases h;exact⟨_,is13⟩
 ·cases h;exact⟨_,is14⟩
 ·cases h;exact⟨_,is15⟩
 ·cases h;exact⟨_,is16⟩
 ·cases h;exact⟨_,is17⟩
 ·cases h;exact⟨_,is18⟩
 ·cases h;exact⟨_,is19⟩
 ·cases h;exact⟨_,is20⟩
 ·cases h;exact⟨_,is21⟩
 ·cases h;exact⟨_,is22⟩
 ·cases h;exact⟨_,is23⟩
 ·cases h;exact⟨_,is24⟩
 ·cases h;exact⟨_,is25⟩
 ·cases h;exact⟨_,is26⟩
 ·cases h;exact⟨_,is27⟩
 ·cases h;exact⟨_,is28⟩
 ·cases h;exact⟨_,is29⟩
 ·cases h;exact⟨_,is30⟩
 ·cases h;exact⟨_,is31⟩
 ·cases h;exact⟨_,is32⟩
 ·cases h;exact⟨_,is33⟩
 ·cases h;exact⟨_,is34⟩
 ·cases h;exact⟨_,is35⟩
 ·cases h;exact⟨_,is36⟩
 ·cases h;exact⟨_,is37⟩
 ·cases h;exact⟨_,is38⟩
 ·cases h;exact⟨_,is39⟩
 ·cases h;exact⟨_,is40⟩
 ·cases h;exact⟨_,is41⟩
 ·cases h;exact⟨_,is42⟩
 ·cases h;exact⟨_,is43⟩
 ·cases h;exact⟨_,is44⟩
 ·cases h;exact⟨_,is45⟩
 ·cases h;exact⟨_,is46⟩
 ·cases h;exact⟨_,is47⟩
 ·cases h;exact⟨_,is48⟩
 ·cases h;exact⟨_,is49⟩
 ·cases h;exact⟨_,is50⟩
 ·cases h;exact⟨_,is51⟩
 ·cases h;exact⟨_,is52⟩
 ·cases h;exact⟨_,is53⟩
 ·cases h;exact⟨_,is54⟩
 ·cases h;exact⟨_,is55⟩
 ·cases h;exact⟨_,is56⟩
 ·cases h;exact⟨_,is57⟩
 ·cases h;exact⟨_,is58⟩
 ·cases h;exact⟨_,is59⟩
 ·cases h;exact⟨_,is60⟩
 ·cases h;exact⟨_,is61⟩
 ·cases h;exact⟨_,is62⟩
 ·cases h;exact⟨_,is63⟩
 ·cases h;exact⟨_,is64⟩
 ·cases h;exact⟨_,is65⟩
 ·cases h;exact⟨_,is66⟩
 ·cases h;exact⟨_,is67⟩
 ·cases h;exact⟨_,is68⟩
 ·cases h;exact⟨_,is69⟩
 ·cases h;exact⟨_,is70⟩
 ·cases h;exact⟨_,is71⟩
 ·cases h;exact⟨_,is72⟩
 ·cases h;exact⟨_,is73⟩
 ·cases h;exact⟨_,is74⟩
 ·cases h;exact⟨_,is75⟩
 ·cases h;exact⟨_,is76⟩
 ·cases h;exact⟨_,is77⟩
 ·cases h;exact⟨_,is78⟩
 ·cases h;exact⟨_,is79⟩
 ·cases h;exact⟨_,is80⟩
 ·cases h;exact⟨_,is81⟩
 ·cases h;exact⟨_,is82⟩
 ·cases h;exact⟨_,is83⟩
 ·cases h;exact⟨_,is84⟩
 ·cases h;exact⟨_,is85⟩
 ·cases h;exact⟨_,is86⟩
 ·cases h;exact⟨_,is87⟩
 ·cases h;exact⟨_,is88⟩
 ·cases h;exact⟨_,is89⟩
 ·cases h;exact⟨_,is90⟩
 ·cases h;exact⟨_,is91⟩
 ·cases h;exact⟨_,is92⟩
 ·cases h;exact⟨_,is93⟩
 ·cases h;exact⟨_,is94⟩
 ·cases h;exact⟨_,is95⟩
 ·cases h;exact⟨_,is96⟩
 ·cases h;exact⟨_,is97⟩
 ·cases h;exact⟨_,is98⟩
 ·cases h;exact⟨_,is99⟩
 ·cases h;exact⟨_,is100⟩
 ·cases h;exact⟨_,is101⟩
 ·cases h;exact⟨_,is102⟩
 ·cases h;exact⟨_,is103⟩
 ·cases h;exact⟨_,is104⟩
 ·cases h;exact⟨_,is105⟩
 ·cases h;exact⟨_,is106⟩
 ·cases h;exact⟨_,is107⟩
 ·cases h;exact⟨_,is108⟩
 ·cases h;exact⟨_,is109⟩
 ·cases h;exact⟨_,is110⟩
 ·cases h;exact⟨_,is111⟩
 ·cases h;exact⟨_,is112⟩
 ·cases h;exact⟨_,is113⟩
 ·cases h;exact⟨_,is114⟩
 ·cases h;exact⟨_,is115⟩
 ·cases h;exact⟨_,is116⟩
 ·cases h;exact⟨_,is117⟩
 ·cases h;exact⟨_,is118⟩
 ·cases h;exact⟨_,is119⟩
 ·cases h;exact⟨_,is120⟩
 ·simp at h
theorem mixed:Tryz.prog.follows .mixedOrders=true:=by kernel_rfl
theorem okAll(base n:Nat):CallOK Tryz.prog base Tryz.prog.globals.size (run cp n):=sound mixed compiled base n
theorem st4{lo:Nat}{H:Heap}{R:Value→Heap→Prop}{a0 a1 a2 a3:Value}(h:wpS cp lo bd4 (bodyQ cf4 R) [a0,a1,a2,a3,undef,undef,undef,undef,undef,undef,undef,undef,undef,undef,undef,undef,undef,undef] H):Ev cp lo 4 [a0,a1,a2,a3] H R:=ev_of_wp (cf:=cf4) rfl rfl h
theorem st5{lo:Nat}{H:Heap}{R:Value→Heap→Prop}(h:wpS cp lo bd5 (bodyQ cf5 R) [undef,undef,undef,undef,undef,undef,undef,undef,undef,undef,undef,undef,undef,undef,undef,undef,undef,undef,undef,undef,undef,undef,undef] H):Ev cp lo 5 [] H R:=ev_of_wp (cf:=cf5) rfl rfl h
theorem st6{lo:Nat}{H:Heap}{R:Value→Heap→Prop}{a0 a1 a2:Value}(h:wpS cp lo bd6 (bodyQ cf6 R) [a0,a1,a2,undef,undef,undef,undef,undef,undef,undef,undef,undef,undef,undef,undef,undef,undef,undef,undef,undef,undef,undef,undef,undef,undef,undef,undef,undef,undef] H):Ev cp lo 6 [a0,a1,a2] H R:=ev_of_wp (cf:=cf6) rfl rfl h
theorem st8{lo:Nat}{H:Heap}{R:Value→Heap→Prop}{a0 a1:Value}(h:wpS cp lo bd8 (bodyQ cf8 R) [a0,a1,undef,undef] H):Ev cp lo 8 [a0,a1] H R:=ev_of_wp (cf:=cf8) rfl rfl h
theorem st9{lo:Nat}{H:Heap}{R:Value→Heap→Prop}{a0 a1 a2 a3:Value}(h:wpS cp lo bd9 (bodyQ cf9 R) [a0,a1,a2,a3,undef,undef,undef,undef,undef,undef,undef,undef,undef,undef,undef,undef,undef,undef,undef,undef,undef,undef,undef,undef,undef,undef,undef,undef,undef,undef,undef] H):Ev cp lo 9 [a0,a1,a2,a3] H R:=ev_of_wp (cf:=cf9) rfl rfl h
theorem st10{lo:Nat}{H:Heap}{R:Value→Heap→Prop}{a0 a1 a2 a3:Value}(h:wpS cp lo bd10 (bodyQ cf10 R) [a0,a1,a2,a3,undef,undef,undef,undef,undef,undef,undef,undef,undef,undef,undef,undef,undef,undef,undef,undef,undef,undef,undef,undef,undef,undef,undef,undef,undef,undef,undef] H):Ev cp lo 10 [a0,a1,a2,a3] H R:=ev_of_wp (cf:=cf10) rfl rfl h
theorem st11{lo:Nat}{H:Heap}{R:Value→Heap→Prop}(h:wpS cp lo bd11 (bodyQ cf11 R) [undef,undef] H):Ev cp lo 11 [] H R:=ev_of_wp (cf:=cf11) rfl rfl h
theorem st12{lo:Nat}{H:Heap}{R:Value→Heap→Prop}{a0 a1:Value}(h:wpS cp lo bd12 (bodyQ cf12 R) [a0,a1,undef,undef,undef,undef,undef,undef,undef,undef,undef,undef,undef,undef,undef,undef,undef,undef,undef,undef,undef,undef,undef,undef,undef,undef,undef] H):Ev cp lo 12 [a0,a1] H R:=ev_of_wp (cf:=cf12) rfl rfl h
theorem st13{lo:Nat}{H:Heap}{R:Value→Heap→Prop}{a0 a1 a2:Value}(h:wpS cp lo bd13 (bodyQ cf13 R) [a0,a1,a2,undef,undef,undef,undef,undef,undef,undef,undef,undef,undef,undef,undef,undef,undef,undef,undef,undef,undef,undef,undef,undef,undef,undef] H):Ev cp lo 13 [a0,a1,a2] H R:=ev_of_wp (cf:=cf13) rfl rfl h
theorem st14{lo:Nat}{H:Heap}{R:Value→Heap→Prop}{a0 a1:Value}(h:wpS cp lo bd14 (bodyQ cf14 R) [a0,a1,undef,undef,undef,undef,undef,undef,undef,undef,undef] H):Ev cp lo 14 [a0,a1] H R:=ev_of_wp (cf:=cf14) rfl rfl h
theorem st15{lo:Nat}{H:Heap}{R:Value→Heap→Prop}{a0:Value}(h:wpS cp lo bd15 (bodyQ cf15 R) [a0,undef,undef,undef,undef,undef,undef,undef,undef,undef,undef] H):Ev cp lo 15 [a0] H R:=ev_of_wp (cf:=cf15) rfl rfl h
theorem st16{lo:Nat}{H:Heap}{R:Value→Heap→Prop}{a0 a1:Value}(h:wpS cp lo bd16 (bodyQ cf16 R) [a0,a1,undef,undef,undef,undef,undef,undef,undef,undef,undef,undef,undef,undef,undef,undef,undef,undef,undef,undef,undef,undef,undef,undef,undef,undef,undef,undef,undef,undef,undef,undef,undef,undef,undef] H):Ev cp lo 16 [a0,a1] H R:=ev_of_wp (cf:=cf16) rfl rfl h
theorem st17{lo:Nat}{H:Heap}{R:Value→Heap→Prop}{a0:Value}(h:wpS cp lo bd17 (bodyQ cf17 R) [a0,undef,undef,undef,undef,undef,undef,undef,undef,undef,undef,undef,undef,undef,undef,undef,undef,undef,undef,undef] H):Ev cp lo 17 [a0] H R:=ev_of_wp (cf:=cf17) rfl rfl h
theorem st19{lo:Nat}{H:Heap}{R:Value→Heap→Prop}{a0 a1:Value}(h:wpS cp lo bd19 (bodyQ cf19 R) [a0,a1,undef,undef,undef,undef,undef,undef,undef,undef,undef,undef,undef,undef,undef,undef,undef] H):Ev cp lo 19 [a0,a1] H R:=ev_of_wp (cf:=cf19) rfl rfl h
theorem st21{lo:Nat}{H:Heap}{R:Value→Heap→Prop}{a0:Value}(h:wpS cp lo bd21 (bodyQ cf21 R) [a0,undef,undef,undef,undef,undef] H):Ev cp lo 21 [a0] H R:=ev_of_wp (cf:=cf21) rfl rfl h
theorem st22{lo:Nat}{H:Heap}{R:Value→Heap→Prop}{a0 a1:Value}(h:wpS cp lo bd22 (bodyQ cf22 R) [a0,a1,undef,undef,undef,undef,undef,undef,undef,undef,undef,undef,undef,undef,undef,undef,undef,undef,undef,undef,undef,undef] H):Ev cp lo 22 [a0,a1] H R:=ev_of_wp (cf:=cf22) rfl rfl h
theorem st23{lo:Nat}{H:Heap}{R:Value→Heap→Prop}{a0 a1 a2 a3:Value}(h:wpS cp lo bd23 (bodyQ cf23 R) [a0,a1,a2,a3,undef,undef,undef,undef,undef,undef,undef,undef,undef,undef,undef,undef,undef,undef,undef,undef,undef,undef,undef,undef,undef,undef,undef,undef,undef,undef,undef,undef,undef,undef,undef,undef,undef,undef,undef,undef,undef,undef,undef,undef,undef,undef,undef,undef,undef,undef,undef,undef] H):Ev cp lo 23 [a0,a1,a2,a3] H R:=ev_of_wp (cf:=cf23) rfl rfl h
theorem st24{lo:Nat}{H:Heap}{R:Value→Heap→Prop}{a0 a1:Value}(h:wpS cp lo bd24 (bodyQ cf24 R) [a0,a1,undef,undef] H):Ev cp lo 24 [a0,a1] H R:=ev_of_wp (cf:=cf24) rfl rfl h
theorem st25{lo:Nat}{H:Heap}{R:Value→Heap→Prop}{a0 a1 a2 a3 a4:Value}(h:wpS cp lo bd25 (bodyQ cf25 R) [a0,a1,a2,a3,a4,undef,undef,undef,undef,undef,undef,undef,undef,undef,undef,undef,undef,undef,undef,undef,undef,undef] H):Ev cp lo 25 [a0,a1,a2,a3,a4] H R:=ev_of_wp (cf:=cf25) rfl rfl h
theorem st26{lo:Nat}{H:Heap}{R:Value→Heap→Prop}{a0 a1 a2:Value}(h:wpS cp lo bd26 (bodyQ cf26 R) [a0,a1,a2,undef,undef,undef,undef,undef,undef,undef,undef,undef,undef,undef,undef] H):Ev cp lo 26 [a0,a1,a2] H R:=ev_of_wp (cf:=cf26) rfl rfl h
theorem st27{lo:Nat}{H:Heap}{R:Value→Heap→Prop}{a0:Value}(h:wpS cp lo bd27 (bodyQ cf27 R) [a0,undef,undef,undef,undef,undef,undef,undef] H):Ev cp lo 27 [a0] H R:=ev_of_wp (cf:=cf27) rfl rfl h
theorem st28{lo:Nat}{H:Heap}{R:Value→Heap→Prop}{a0 a1 a2:Value}(h:wpS cp lo bd28 (bodyQ cf28 R) [a0,a1,a2,undef,undef,undef,undef,undef,undef] H):Ev cp lo 28 [a0,a1,a2] H R:=ev_of_wp (cf:=cf28) rfl rfl h
theorem st29{lo:Nat}{H:Heap}{R:Value→Heap→Prop}{a0:Value}(h:wpS cp lo bd29 (bodyQ cf29 R) [a0,undef,undef,undef,undef,undef,undef,undef,undef,undef,undef,undef,undef,undef,undef,undef,undef,undef,undef,undef] H):Ev cp lo 29 [a0] H R:=ev_of_wp (cf:=cf29) rfl rfl h
theorem st31{lo:Nat}{H:Heap}{R:Value→Heap→Prop}{a0 a1:Value}(h:wpS cp lo bd31 (bodyQ cf31 R) [a0,a1,undef,undef,undef,undef,undef,undef,undef,undef] H):Ev cp lo 31 [a0,a1] H R:=ev_of_wp (cf:=cf31) rfl rfl h
theorem st32{lo:Nat}{H:Heap}{R:Value→Heap→Prop}{a0 a1:Value}(h:wpS cp lo bd32 (bodyQ cf32 R) [a0,a1,undef,undef,undef,undef,undef] H):Ev cp lo 32 [a0,a1] H R:=ev_of_wp (cf:=cf32) rfl rfl h
theorem st33{lo:Nat}{H:Heap}{R:Value→Heap→Prop}{a0 a1 a2:Value}(h:wpS cp lo bd33 (bodyQ cf33 R) [a0,a1,a2,undef,undef,undef,undef,undef] H):Ev cp lo 33 [a0,a1,a2] H R:=ev_of_wp (cf:=cf33) rfl rfl h
theorem st34{lo:Nat}{H:Heap}{R:Value→Heap→Prop}{a0 a1:Value}(h:wpS cp lo bd34 (bodyQ cf34 R) [a0,a1,undef,undef,undef,undef,undef,undef,undef] H):Ev cp lo 34 [a0,a1] H R:=ev_of_wp (cf:=cf34) rfl rfl h
theorem st35{lo:Nat}{H:Heap}{R:Value→Heap→Prop}{a0 a1:Value}(h:wpS cp lo bd35 (bodyQ cf35 R) [a0,a1,undef,undef] H):Ev cp lo 35 [a0,a1] H R:=ev_of_wp (cf:=cf35) rfl rfl h
theorem st36{lo:Nat}{H:Heap}{R:Value→Heap→Prop}{a0:Value}(h:wpS cp lo bd36 (bodyQ cf36 R) [a0,undef,undef,undef,undef,undef,undef,undef,undef,undef,undef,undef,undef,undef,undef,undef] H):Ev cp lo 36 [a0] H R:=ev_of_wp (cf:=cf36) rfl rfl h
theorem st37{lo:Nat}{H:Heap}{R:Value→Heap→Prop}{a0 a1 a2:Value}(h:wpS cp lo bd37 (bodyQ cf37 R) [a0,a1,a2,undef,undef,undef,undef,undef,undef,undef,undef,undef] H):Ev cp lo 37 [a0,a1,a2] H R:=ev_of_wp (cf:=cf37) rfl rfl h
theorem st38{lo:Nat}{H:Heap}{R:Value→Heap→Prop}{a0:Value}(h:wpS cp lo bd38 (bodyQ cf38 R) [a0,undef,undef,undef] H):Ev cp lo 38 [a0] H R:=ev_of_wp (cf:=cf38) rfl rfl h
theorem st39{lo:Nat}{H:Heap}{R:Value→Heap→Prop}{a0 a1 a2:Value}(h:wpS cp lo bd39 (bodyQ cf39 R) [a0,a1,a2,undef,undef,undef,undef,undef,undef] H):Ev cp lo 39 [a0,a1,a2] H R:=ev_of_wp (cf:=cf39) rfl rfl h
theorem st40{lo:Nat}{H:Heap}{R:Value→Heap→Prop}{a0 a1:Value}(h:wpS cp lo bd40 (bodyQ cf40 R) [a0,a1,undef] H):Ev cp lo 40 [a0,a1] H R:=ev_of_wp (cf:=cf40) rfl rfl h
theorem st44{lo:Nat}{H:Heap}{R:Value→Heap→Prop}{a0:Value}(h:wpS cp lo bd44 (bodyQ cf44 R) [a0,undef,undef,undef,undef] H):Ev cp lo 44 [a0] H R:=ev_of_wp (cf:=cf44) rfl rfl h
theorem st45{lo:Nat}{H:Heap}{R:Value→Heap→Prop}{a0 a1:Value}(h:wpS cp lo bd45 (bodyQ cf45 R) [a0,a1,undef,undef,undef,undef] H):Ev cp lo 45 [a0,a1] H R:=ev_of_wp (cf:=cf45) rfl rfl h
theorem st47{lo:Nat}{H:Heap}{R:Value→Heap→Prop}{a0 a1 a2:Value}(h:wpS cp lo bd47 (bodyQ cf47 R) [a0,a1,a2,undef,undef] H):Ev cp lo 47 [a0,a1,a2] H R:=ev_of_wp (cf:=cf47) rfl rfl h
theorem st48{lo:Nat}{H:Heap}{R:Value→Heap→Prop}{a0 a1 a2:Value}(h:wpS cp lo bd48 (bodyQ cf48 R) [a0,a1,a2,undef,undef] H):Ev cp lo 48 [a0,a1,a2] H R:=ev_of_wp (cf:=cf48) rfl rfl h
theorem st49{lo:Nat}{H:Heap}{R:Value→Heap→Prop}{a0 a1 a2:Value}(h:wpS cp lo bd49 (bodyQ cf49 R) [a0,a1,a2,undef,undef,undef,undef,undef] H):Ev cp lo 49 [a0,a1,a2] H R:=ev_of_wp (cf:=cf49) rfl rfl h
theorem st50{lo:Nat}{H:Heap}{R:Value→Heap→Prop}{a0 a1 a2:Value}(h:wpS cp lo bd50 (bodyQ cf50 R) [a0,a1,a2,undef,undef,undef,undef,undef,undef,undef] H):Ev cp lo 50 [a0,a1,a2] H R:=ev_of_wp (cf:=cf50) rfl rfl h
theorem st51{lo:Nat}{H:Heap}{R:Value→Heap→Prop}{a0 a1 a2:Value}(h:wpS cp lo bd51 (bodyQ cf51 R) [a0,a1,a2,undef,undef,undef,undef,undef,undef,undef,undef,undef,undef,undef,undef,undef,undef,undef,undef,undef,undef,undef,undef,undef,undef,undef,undef,undef,undef,undef,undef,undef] H):Ev cp lo 51 [a0,a1,a2] H R:=ev_of_wp (cf:=cf51) rfl rfl h
theorem st52{lo:Nat}{H:Heap}{R:Value→Heap→Prop}{a0 a1:Value}(h:wpS cp lo bd52 (bodyQ cf52 R) [a0,a1,undef,undef,undef,undef,undef,undef] H):Ev cp lo 52 [a0,a1] H R:=ev_of_wp (cf:=cf52) rfl rfl h
theorem st53{lo:Nat}{H:Heap}{R:Value→Heap→Prop}{a0 a1 a2 a3:Value}(h:wpS cp lo bd53 (bodyQ cf53 R) [a0,a1,a2,a3,undef,undef,undef,undef,undef,undef,undef,undef,undef,undef,undef,undef,undef,undef,undef,undef,undef,undef,undef,undef,undef,undef,undef,undef,undef,undef,undef,undef,undef,undef,undef,undef,undef,undef,undef,undef,undef,undef,undef,undef,undef,undef,undef,undef,undef,undef,undef,undef,undef,undef,undef,undef,undef,undef,undef] H):Ev cp lo 53 [a0,a1,a2,a3] H R:=ev_of_wp (cf:=cf53) rfl rfl h
theorem st54{lo:Nat}{H:Heap}{R:Value→Heap→Prop}{a0:Value}(h:wpS cp lo bd54 (bodyQ cf54 R) [a0,undef] H):Ev cp lo 54 [a0] H R:=ev_of_wp (cf:=cf54) rfl rfl h
theorem st56{lo:Nat}{H:Heap}{R:Value→Heap→Prop}{a0:Value}(h:wpS cp lo bd56 (bodyQ cf56 R) [a0,undef,undef,undef,undef,undef,undef,undef,undef,undef,undef,undef] H):Ev cp lo 56 [a0] H R:=ev_of_wp (cf:=cf56) rfl rfl h
theorem st57{lo:Nat}{H:Heap}{R:Value→Heap→Prop}{a0 a1 a2:Value}(h:wpS cp lo bd57 (bodyQ cf57 R) [a0,a1,a2,undef,undef] H):Ev cp lo 57 [a0,a1,a2] H R:=ev_of_wp (cf:=cf57) rfl rfl h
theorem st58{lo:Nat}{H:Heap}{R:Value→Heap→Prop}{a0 a1:Value}(h:wpS cp lo bd58 (bodyQ cf58 R) [a0,a1,undef,undef,undef,undef,undef,undef] H):Ev cp lo 58 [a0,a1] H R:=ev_of_wp (cf:=cf58) rfl rfl h
theorem st59{lo:Nat}{H:Heap}{R:Value→Heap→Prop}{a0:Value}(h:wpS cp lo bd59 (bodyQ cf59 R) [a0,undef,undef,undef,undef,undef,undef,undef,undef,undef,undef,undef,undef,undef,undef,undef,undef,undef,undef,undef,undef,undef] H):Ev cp lo 59 [a0] H R:=ev_of_wp (cf:=cf59) rfl rfl h
theorem st60{lo:Nat}{H:Heap}{R:Value→Heap→Prop}{a0 a1:Value}(h:wpS cp lo bd60 (bodyQ cf60 R) [a0,a1,undef,undef] H):Ev cp lo 60 [a0,a1] H R:=ev_of_wp (cf:=cf60) rfl rfl h
theorem st61{lo:Nat}{H:Heap}{R:Value→Heap→Prop}{a0 a1:Value}(h:wpS cp lo bd61 (bodyQ cf61 R) [a0,a1,undef,undef,undef,undef,undef,undef,undef,undef,undef,undef,undef,undef,undef,undef,undef] H):Ev cp lo 61 [a0,a1] H R:=ev_of_wp (cf:=cf61) rfl rfl h
theorem st62{lo:Nat}{H:Heap}{R:Value→Heap→Prop}{a0 a1:Value}(h:wpS cp lo bd62 (bodyQ cf62 R) [a0,a1,undef,undef,undef,undef,undef,undef,undef,undef,undef,undef] H):Ev cp lo 62 [a0,a1] H R:=ev_of_wp (cf:=cf62) rfl rfl h
theorem st63{lo:Nat}{H:Heap}{R:Value→Heap→Prop}{a0:Value}(h:wpS cp lo bd63 (bodyQ cf63 R) [a0,undef,undef,undef,undef,undef,undef,undef,undef,undef,undef,undef,undef,undef,undef,undef,undef,undef,undef,undef,undef,undef] H):Ev cp lo 63 [a0] H R:=ev_of_wp (cf:=cf63) rfl rfl h
theorem st64{lo:Nat}{H:Heap}{R:Value→Heap→Prop}{a0 a1 a2:Value}(h:wpS cp lo bd64 (bodyQ cf64 R) [a0,a1,a2,undef,undef,undef,undef,undef,undef,undef,undef,undef,undef,undef,undef,undef,undef,undef,undef,undef,undef,undef,undef,undef,undef] H):Ev cp lo 64 [a0,a1,a2] H R:=ev_of_wp (cf:=cf64) rfl rfl h
theorem st65{lo:Nat}{H:Heap}{R:Value→Heap→Prop}{a0 a1:Value}(h:wpS cp lo bd65 (bodyQ cf65 R) [a0,a1,undef,undef,undef,undef,undef,undef,undef] H):Ev cp lo 65 [a0,a1] H R:=ev_of_wp (cf:=cf65) rfl rfl h
theorem st66{lo:Nat}{H:Heap}{R:Value→Heap→Prop}{a0:Value}(h:wpS cp lo bd66 (bodyQ cf66 R) [a0,undef,undef,undef,undef,undef,undef,undef,undef] H):Ev cp lo 66 [a0] H R:=ev_of_wp (cf:=cf66) rfl rfl h
theorem st67{lo:Nat}{H:Heap}{R:Value→Heap→Prop}{a0 a1:Value}(h:wpS cp lo bd67 (bodyQ cf67 R) [a0,a1,undef,undef] H):Ev cp lo 67 [a0,a1] H R:=ev_of_wp (cf:=cf67) rfl rfl h
theorem st68{lo:Nat}{H:Heap}{R:Value→Heap→Prop}{a0:Value}(h:wpS cp lo bd68 (bodyQ cf68 R) [a0,undef,undef,undef,undef,undef,undef,undef,undef,undef,undef,undef,undef] H):Ev cp lo 68 [a0] H R:=ev_of_wp (cf:=cf68) rfl rfl h
theorem st69{lo:Nat}{H:Heap}{R:Value→Heap→Prop}{a0 a1 a2 a3:Value}(h:wpS cp lo bd69 (bodyQ cf69 R) [a0,a1,a2,a3,undef,undef,undef,undef,undef,undef,undef,undef,undef,undef,undef,undef] H):Ev cp lo 69 [a0,a1,a2,a3] H R:=ev_of_wp (cf:=cf69) rfl rfl h
theorem st70{lo:Nat}{H:Heap}{R:Value→Heap→Prop}{a0 a1:Value}(h:wpS cp lo bd70 (bodyQ cf70 R) [a0,a1,undef,undef,undef,undef,undef] H):Ev cp lo 70 [a0,a1] H R:=ev_of_wp (cf:=cf70) rfl rfl h
theorem st71{lo:Nat}{H:Heap}{R:Value→Heap→Prop}{a0:Value}(h:wpS cp lo bd71 (bodyQ cf71 R) [a0,undef,undef,undef,undef,undef,undef,undef,undef] H):Ev cp lo 71 [a0] H R:=ev_of_wp (cf:=cf71) rfl rfl h
theorem st72{lo:Nat}{H:Heap}{R:Value→Heap→Prop}{a0 a1:Value}(h:wpS cp lo bd72 (bodyQ cf72 R) [a0,a1,undef,undef,undef,undef,undef,undef,undef,undef,undef,undef] H):Ev cp lo 72 [a0,a1] H R:=ev_of_wp (cf:=cf72) rfl rfl h
theorem st73{lo:Nat}{H:Heap}{R:Value→Heap→Prop}{a0 a1:Value}(h:wpS cp lo bd73 (bodyQ cf73 R) [a0,a1,undef,undef,undef,undef,undef,undef,undef,undef,undef] H):Ev cp lo 73 [a0,a1] H R:=ev_of_wp (cf:=cf73) rfl rfl h
theorem st74{lo:Nat}{H:Heap}{R:Value→Heap→Prop}{a0 a1:Value}(h:wpS cp lo bd74 (bodyQ cf74 R) [a0,a1,undef,undef,undef,undef,undef,undef,undef,undef,undef,undef,undef,undef,undef,undef,undef,undef,undef,undef,undef,undef,undef,undef,undef,undef,undef,undef,undef,undef,undef,undef] H):Ev cp lo 74 [a0,a1] H R:=ev_of_wp (cf:=cf74) rfl rfl h
theorem st75{lo:Nat}{H:Heap}{R:Value→Heap→Prop}{a0 a1 a2:Value}(h:wpS cp lo bd75 (bodyQ cf75 R) [a0,a1,a2,undef,undef,undef,undef,undef,undef,undef,undef] H):Ev cp lo 75 [a0,a1,a2] H R:=ev_of_wp (cf:=cf75) rfl rfl h
theorem st76{lo:Nat}{H:Heap}{R:Value→Heap→Prop}{a0 a1:Value}(h:wpS cp lo bd76 (bodyQ cf76 R) [a0,a1,undef,undef,undef] H):Ev cp lo 76 [a0,a1] H R:=ev_of_wp (cf:=cf76) rfl rfl h
theorem st77{lo:Nat}{H:Heap}{R:Value→Heap→Prop}{a0 a1 a2 a3:Value}(h:wpS cp lo bd77 (bodyQ cf77 R) [a0,a1,a2,a3,undef,undef,undef,undef,undef,undef,undef,undef,undef,undef,undef,undef,undef,undef,undef,undef,undef,undef,undef,undef,undef,undef,undef,undef,undef,undef,undef,undef,undef,undef,undef,undef,undef,undef,undef] H):Ev cp lo 77 [a0,a1,a2,a3] H R:=ev_of_wp (cf:=cf77) rfl rfl h
theorem st78{lo:Nat}{H:Heap}{R:Value→Heap→Prop}{a0:Value}(h:wpS cp lo bd78 (bodyQ cf78 R) [a0,undef,undef] H):Ev cp lo 78 [a0] H R:=ev_of_wp (cf:=cf78) rfl rfl h
theorem st79{lo:Nat}{H:Heap}{R:Value→Heap→Prop}{a0:Value}(h:wpS cp lo bd79 (bodyQ cf79 R) [a0,undef,undef] H):Ev cp lo 79 [a0] H R:=ev_of_wp (cf:=cf79) rfl rfl h
theorem st80{lo:Nat}{H:Heap}{R:Value→Heap→Prop}{a0:Value}(h:wpS cp lo bd80 (bodyQ cf80 R) [a0,undef,undef,undef,undef,undef,undef] H):Ev cp lo 80 [a0] H R:=ev_of_wp (cf:=cf80) rfl rfl h
theorem st81{lo:Nat}{H:Heap}{R:Value→Heap→Prop}{a0:Value}(h:wpS cp lo bd81 (bodyQ cf81 R) [a0,undef,undef,undef,undef,undef] H):Ev cp lo 81 [a0] H R:=ev_of_wp (cf:=cf81) rfl rfl h
theorem st82{lo:Nat}{H:Heap}{R:Value→Heap→Prop}{a0 a1 a2:Value}(h:wpS cp lo bd82 (bodyQ cf82 R) [a0,a1,a2,undef,undef,undef,undef,undef,undef,undef] H):Ev cp lo 82 [a0,a1,a2] H R:=ev_of_wp (cf:=cf82) rfl rfl h
theorem st83{lo:Nat}{H:Heap}{R:Value→Heap→Prop}{a0 a1:Value}(h:wpS cp lo bd83 (bodyQ cf83 R) [a0,a1,undef,undef,undef,undef,undef,undef] H):Ev cp lo 83 [a0,a1] H R:=ev_of_wp (cf:=cf83) rfl rfl h
theorem st84{lo:Nat}{H:Heap}{R:Value→Heap→Prop}{a0 a1 a2 a3:Value}(h:wpS cp lo bd84 (bodyQ cf84 R) [a0,a1,a2,a3,undef,undef,undef,undef,undef,undef,undef,undef,undef,undef,undef,undef,undef,undef,undef] H):Ev cp lo 84 [a0,a1,a2,a3] H R:=ev_of_wp (cf:=cf84) rfl rfl h
theorem st85{lo:Nat}{H:Heap}{R:Value→Heap→Prop}{a0 a1 a2:Value}(h:wpS cp lo bd85 (bodyQ cf85 R) [a0,a1,a2,undef,undef] H):Ev cp lo 85 [a0,a1,a2] H R:=ev_of_wp (cf:=cf85) rfl rfl h
theorem st86{lo:Nat}{H:Heap}{R:Value→Heap→Prop}{a0 a1 a2:Value}(h:wpS cp lo bd86 (bodyQ cf86 R) [a0,a1,a2,undef,undef] H):Ev cp lo 86 [a0,a1,a2] H R:=ev_of_wp (cf:=cf86) rfl rfl h
theorem st87{lo:Nat}{H:Heap}{R:Value→Heap→Prop}{a0 a1 a2:Value}(h:wpS cp lo bd87 (bodyQ cf87 R) [a0,a1,a2,undef,undef] H):Ev cp lo 87 [a0,a1,a2] H R:=ev_of_wp (cf:=cf87) rfl rfl h
theorem st88{lo:Nat}{H:Heap}{R:Value→Heap→Prop}{a0:Value}(h:wpS cp lo bd88 (bodyQ cf88 R) [a0,undef,undef] H):Ev cp lo 88 [a0] H R:=ev_of_wp (cf:=cf88) rfl rfl h
theorem st89{lo:Nat}{H:Heap}{R:Value→Heap→Prop}{a0 a1:Value}(h:wpS cp lo bd89 (bodyQ cf89 R) [a0,a1,undef,undef,undef,undef,undef,undef] H):Ev cp lo 89 [a0,a1] H R:=ev_of_wp (cf:=cf89) rfl rfl h
theorem st90{lo:Nat}{H:Heap}{R:Value→Heap→Prop}{a0:Value}(h:wpS cp lo bd90 (bodyQ cf90 R) [a0,undef,undef] H):Ev cp lo 90 [a0] H R:=ev_of_wp (cf:=cf90) rfl rfl h
theorem st91{lo:Nat}{H:Heap}{R:Value→Heap→Prop}{a0:Value}(h:wpS cp lo bd91 (bodyQ cf91 R) [a0,undef,undef,undef,undef,undef] H):Ev cp lo 91 [a0] H R:=ev_of_wp (cf:=cf91) rfl rfl h
theorem st92{lo:Nat}{H:Heap}{R:Value→Heap→Prop}{a0 a1 a2:Value}(h:wpS cp lo bd92 (bodyQ cf92 R) [a0,a1,a2,undef,undef,undef,undef,undef] H):Ev cp lo 92 [a0,a1,a2] H R:=ev_of_wp (cf:=cf92) rfl rfl h
theorem st93{lo:Nat}{H:Heap}{R:Value→Heap→Prop}{a0:Value}(h:wpS cp lo bd93 (bodyQ cf93 R) [a0,undef,undef,undef] H):Ev cp lo 93 [a0] H R:=ev_of_wp (cf:=cf93) rfl rfl h
theorem st94{lo:Nat}{H:Heap}{R:Value→Heap→Prop}{a0:Value}(h:wpS cp lo bd94 (bodyQ cf94 R) [a0,undef,undef,undef,undef,undef,undef,undef,undef,undef,undef,undef,undef,undef,undef,undef,undef] H):Ev cp lo 94 [a0] H R:=ev_of_wp (cf:=cf94) rfl rfl h
theorem st95{lo:Nat}{H:Heap}{R:Value→Heap→Prop}{a0:Value}(h:wpS cp lo bd95 (bodyQ cf95 R) [a0,undef,undef,undef,undef,undef] H):Ev cp lo 95 [a0] H R:=ev_of_wp (cf:=cf95) rfl rfl h
theorem st96{lo:Nat}{H:Heap}{R:Value→Heap→Prop}{a0:Value}(h:wpS cp lo bd96 (bodyQ cf96 R) [a0,undef,undef,undef,undef,undef,undef,undef,undef,undef,undef,undef,undef,undef,undef,undef,undef,undef,undef,undef,undef,undef,undef] H):Ev cp lo 96 [a0] H R:=ev_of_wp (cf:=cf96) rfl rfl h
theorem st97{lo:Nat}{H:Heap}{R:Value→Heap→Prop}{a0:Value}(h:wpS cp lo bd97 (bodyQ cf97 R) [a0,undef,undef,undef,undef,undef,undef,undef,undef,undef,undef,undef,undef,undef,undef,undef,undef,undef,undef,undef,undef,undef,undef,undef,undef,undef,undef,undef,undef,undef,undef,undef,undef,undef,undef,undef] H):Ev cp lo 97 [a0] H R:=ev_of_wp (cf:=cf97) rfl rfl h
theorem st98{lo:Nat}{H:Heap}{R:Value→Heap→Prop}{a0:Value}(h:wpS cp lo bd98 (bodyQ cf98 R) [a0,undef,undef,undef,undef,undef] H):Ev cp lo 98 [a0] H R:=ev_of_wp (cf:=cf98) rfl rfl h
theorem st99{lo:Nat}{H:Heap}{R:Value→Heap→Prop}{a0 a1 a2:Value}(h:wpS cp lo bd99 (bodyQ cf99 R) [a0,a1,a2,undef,undef,undef,undef,undef,undef,undef,undef] H):Ev cp lo 99 [a0,a1,a2] H R:=ev_of_wp (cf:=cf99) rfl rfl h
theorem st100{lo:Nat}{H:Heap}{R:Value→Heap→Prop}{a0 a1:Value}(h:wpS cp lo bd100 (bodyQ cf100 R) [a0,a1,undef] H):Ev cp lo 100 [a0,a1] H R:=ev_of_wp (cf:=cf100) rfl rfl h
theorem st101{lo:Nat}{H:Heap}{R:Value→Heap→Prop}{a0 a1 a2 a3 a4:Value}(h:wpS cp lo bd101 (bodyQ cf101 R) [a0,a1,a2,a3,a4,undef,undef,undef,undef,undef,undef,undef,undef,undef,undef,undef,undef,undef,undef,undef,undef] H):Ev cp lo 101 [a0,a1,a2,a3,a4] H R:=ev_of_wp (cf:=cf101) rfl rfl h
theorem st102{lo:Nat}{H:Heap}{R:Value→Heap→Prop}{a0:Value}(h:wpS cp lo bd102 (bodyQ cf102 R) [a0,undef,undef,undef] H):Ev cp lo 102 [a0] H R:=ev_of_wp (cf:=cf102) rfl rfl h
theorem st103{lo:Nat}{H:Heap}{R:Value→Heap→Prop}{a0 a1:Value}(h:wpS cp lo bd103 (bodyQ cf103 R) [a0,a1,undef,undef,undef,undef,undef,undef,undef] H):Ev cp lo 103 [a0,a1] H R:=ev_of_wp (cf:=cf103) rfl rfl h
theorem st104{lo:Nat}{H:Heap}{R:Value→Heap→Prop}{a0:Value}(h:wpS cp lo bd104 (bodyQ cf104 R) [a0,undef,undef,undef,undef,undef] H):Ev cp lo 104 [a0] H R:=ev_of_wp (cf:=cf104) rfl rfl h
theorem st105{lo:Nat}{H:Heap}{R:Value→Heap→Prop}{a0 a1 a2:Value}(h:wpS cp lo bd105 (bodyQ cf105 R) [a0,a1,a2,undef,undef,undef] H):Ev cp lo 105 [a0,a1,a2] H R:=ev_of_wp (cf:=cf105) rfl rfl h
theorem st106{lo:Nat}{H:Heap}{R:Value→Heap→Prop}{a0 a1:Value}(h:wpS cp lo bd106 (bodyQ cf106 R) [a0,a1,undef,undef,undef,undef,undef] H):Ev cp lo 106 [a0,a1] H R:=ev_of_wp (cf:=cf106) rfl rfl h
theorem st107{lo:Nat}{H:Heap}{R:Value→Heap→Prop}{a0 a1 a2:Value}(h:wpS cp lo bd107 (bodyQ cf107 R) [a0,a1,a2,undef,undef,undef,undef,undef,undef,undef,undef,undef,undef,undef,undef,undef,undef,undef,undef,undef,undef,undef,undef] H):Ev cp lo 107 [a0,a1,a2] H R:=ev_of_wp (cf:=cf107) rfl rfl h
theorem st108{lo:Nat}{H:Heap}{R:Value→Heap→Prop}{a0 a1 a2 a3 a4:Value}(h:wpS cp lo bd108 (bodyQ cf108 R) [a0,a1,a2,a3,a4,undef,undef,undef,undef,undef,undef,undef,undef,undef,undef,undef,undef,undef,undef,undef] H):Ev cp lo 108 [a0,a1,a2,a3,a4] H R:=ev_of_wp (cf:=cf108) rfl rfl h
theorem st109{lo:Nat}{H:Heap}{R:Value→Heap→Prop}{a0 a1:Value}(h:wpS cp lo bd109 (bodyQ cf109 R) [a0,a1,undef] H):Ev cp lo 109 [a0,a1] H R:=ev_of_wp (cf:=cf109) rfl rfl h
theorem st110{lo:Nat}{H:Heap}{R:Value→Heap→Prop}{a0 a1 a2 a3:Value}(h:wpS cp lo bd110 (bodyQ cf110 R) [a0,a1,a2,a3,undef,undef,undef,undef,undef,undef,undef,undef,undef,undef,undef,undef,undef,undef,undef,undef] H):Ev cp lo 110 [a0,a1,a2,a3] H R:=ev_of_wp (cf:=cf110) rfl rfl h
theorem st111{lo:Nat}{H:Heap}{R:Value→Heap→Prop}{a0 a1:Value}(h:wpS cp lo bd111 (bodyQ cf111 R) [a0,a1,undef,undef,undef,undef,undef,undef,undef,undef,undef,undef,undef,undef,undef,undef,undef,undef,undef,undef,undef,undef,undef,undef,undef,undef,undef,undef] H):Ev cp lo 111 [a0,a1] H R:=ev_of_wp (cf:=cf111) rfl rfl h
theorem st112{lo:Nat}{H:Heap}{R:Value→Heap→Prop}{a0 a1 a2:Value}(h:wpS cp lo bd112 (bodyQ cf112 R) [a0,a1,a2,undef,undef,undef,undef,undef,undef,undef,undef] H):Ev cp lo 112 [a0,a1,a2] H R:=ev_of_wp (cf:=cf112) rfl rfl h
theorem st113{lo:Nat}{H:Heap}{R:Value→Heap→Prop}{a0 a1:Value}(h:wpS cp lo bd113 (bodyQ cf113 R) [a0,a1,undef,undef,undef,undef,undef,undef,undef,undef] H):Ev cp lo 113 [a0,a1] H R:=ev_of_wp (cf:=cf113) rfl rfl h
theorem st114{lo:Nat}{H:Heap}{R:Value→Heap→Prop}{a0 a1 a2:Value}(h:wpS cp lo bd114 (bodyQ cf114 R) [a0,a1,a2,undef,undef] H):Ev cp lo 114 [a0,a1,a2] H R:=ev_of_wp (cf:=cf114) rfl rfl h
theorem st115{lo:Nat}{H:Heap}{R:Value→Heap→Prop}{a0 a1 a2:Value}(h:wpS cp lo bd115 (bodyQ cf115 R) [a0,a1,a2,undef,undef] H):Ev cp lo 115 [a0,a1,a2] H R:=ev_of_wp (cf:=cf115) rfl rfl h
theorem st116{lo:Nat}{H:Heap}{R:Value→Heap→Prop}{a0 a1 a2:Value}(h:wpS cp lo bd116 (bodyQ cf116 R) [a0,a1,a2,undef,undef] H):Ev cp lo 116 [a0,a1,a2] H R:=ev_of_wp (cf:=cf116) rfl rfl h
theorem st118{lo:Nat}{H:Heap}{R:Value→Heap→Prop}{a0:Value}(h:wpS cp lo bd118 (bodyQ cf118 R) [a0,undef] H):Ev cp lo 118 [a0] H R:=ev_of_wp (cf:=cf118) rfl rfl h
theorem st119{lo:Nat}{H:Heap}{R:Value→Heap→Prop}{a0 a1:Value}(h:wpS cp lo bd119 (bodyQ cf119 R) [a0,a1,undef,undef,undef,undef,undef] H):Ev cp lo 119 [a0,a1] H R:=ev_of_wp (cf:=cf119) rfl rfl h
theorem st120{lo:Nat}{H:Heap}{R:Value→Heap→Prop}{a0 a1 a2:Value}(h:wpS cp lo bd120 (bodyQ cf120 R) [a0,a1,a2,undef,undef] H):Ev cp lo 120 [a0,a1,a2] H R:=ev_of_wp (cf:=cf120) rfl rfl h
end Go.Proofs.YtkeagffmmhllcaaGreat
