/- The functions of this seat as the abstract machine has them (printed by a program), and that its compiler makes them of the given program. -/
import Derived.Test.YtmnlgdpdgjbfgaaGreatD8
import Derived.Test.YtmnlgdpdgjbfgaaGreatProg
import Derived.KernelRfl
set_option linter.unusedVariables false
set_option linter.unusedSimpArgs false
set_option linter.unusedSectionVars false
namespace Go.Proofs.YtmnlgdpdgjbfgaaGreat
open Go.Abs
def lit0:ByteArray:=⟨#[0,1,2,2,3,3,3,3,4,4,4,4,4,4,4,4,5,5,5,5,5,5,5,5,5,5,5,5,5,5,5,5,6,6,6,6,6,6,6,6,6,6,6,6,6,6,6,6,6,6,6,6,6,6,6,6,6,6,6,6,6,6,6,6,7,7,7,7,7,7,7,7,7,7,7,7,7,7,7,7,7,7,7,7,7,7,7,7,7,7,7,7,7,7,7,7,7,7,7,7,7,7,7,7,7,7,7,7,7,7,7,7,7,7,7,7,7,7,7,7,7,7,7,7,7,7,7,7,8,8,8,8,8,8,8,8,8,8,8,8,8,8,8,8,8,8,8,8,8,8,8,8,8,8,8,8,8,8,8,8,8,8,8,8,8,8,8,8,8,8,8,8,8,8,8,8,8,8,8,8,8,8,8,8,8,8,8,8,8,8,8,8,8,8,8,8,8,8,8,8,8,8,8,8,8,8,8,8,8,8,8,8,8,8,8,8,8,8,8,8,8,8,8,8,8,8,8,8,8,8,8,8,8,8,8,8,8,8,8,8,8,8,8,8,8,8,8,8,8,8,8,8,8,8,8,8]⟩
namespace K
def x(n:Nat):E:=.var n
def i(n:Int):E:=.cst (.int .i64 n)
def c(a b:E):E:=.cons a b
def c1(a:E):E:=.cons a .nil
def c2(a b:E):E:=.cons a (.cons b .nil)
def c3(a b c:E):E:=.cons a (.cons b (.cons c .nil))
def n1(o:LOp)(a:E):E:=.node o (.cons a .nil)
def n2(o:LOp)(a b:E):E:=.node o (.cons a (.cons b .nil))
def b(o:BinOp)(a b:E):E:=.node (.bin o) (.cons a (.cons b .nil))
def ld(a:E):E:=.node (.ld 1 false) (.cons a .nil)
def fa(n:Nat)(a:E):E:=.node (.fAddr n) (.cons a .nil)
def ix(n:Nat)(a:E):E:=.node (.ext n) (.cons a .nil)
def p(a b c:E):E:=.pick a b c
def h(d:Nat)(o:HOp)(a:E):Stm:=.hv [] [] [] (some d) o a
def cl(d f:Nat)(a:E):Stm:=.hv [] [] [] (some d) (.call false) (.cons (.cst (.func (.func f) #[] #[])) a)
def s(l:List (Nat×E)):Stm:=.sets l []
def q(a b:Stm):Stm:=.seq a b
end K
set_option linter.defProp false in
def kB:=And.intro @K.x.eq_1 (And.intro @K.i.eq_1 (And.intro @K.c.eq_1 (And.intro @K.c1.eq_1 (And.intro @K.c2.eq_1 (And.intro @K.c3.eq_1 (And.intro @K.n1.eq_1 (And.intro @K.n2.eq_1 (And.intro @K.b.eq_1 (And.intro @K.ld.eq_1 (And.intro @K.fa.eq_1 (And.intro @K.ix.eq_1 (And.intro @K.p.eq_1 (And.intro @K.h.eq_1 (And.intro @K.cl.eq_1 (And.intro @K.s.eq_1 @K.q.eq_1)))))))))))))))
section
open K
def bd3:Stm:=
 q (q (h 2 .box (c1 (x 1))) (s [(3,.cst (.bool false))])) (q (.cond (b .gtr (n1 .len (x 0)) (i 1600)) (q (q (cl 8 12 .nil) (s [(3,x 8)])) .ret) .skip) (q (q
 (cl 9 13 (c2 (x 0) (n1 (.ld 7 true) (x 2)))) (s [(5,ix 1 (x 9)),(4,ix 0 (x 9))])) (q (q (cl 10 14 (c2 (x 0) (n1 (.ld 7 true) (x 2)))) (s [(7,ix 1 (x 10)),
 (6,ix 0 (x 10))])) (q (q (.hv [(11,b .eql (x 5) (x 7))] [] [(b .eql (x 5) (x 7),true)] (some 12) (.call false) (c3 (.cst (.func (.func 15) #[] #[])) (x 4)
 (x 6))) (q (.hv [(13,p (x 11) (x 12) (.cst (.bool false)))] [] [(p (x 11) (x 12) (.cst (.bool false)),true)] (some 14) (.call false) (c1 (.cst (.func (.func
 12) #[] #[])))) (s [(3,p (x 13) (x 14) (.cst (.bool false)))]))) .ret))))
def cf3:CF:=⟨2,15,[(.var 3)],bd3,.plain⟩
def tr3:List Nat:=[0,1,3,4,5,6,7,8,12,16,22,28,31,33,34]
def bd12:Stm:=
 q (s [(0,.cst (.bool false))]) (q (q (.hv [(14,.node (.build [.int .i64 0,.int .i64 0,.int .i64 0,.int .i64 0,.int .i64 0,.int .i64 0,.int .i64 0] [(0,
 1),(1,1),(2,1),(3,1),(4,1),(5,1),(6,1)]) (c (i 10) (c (i 10) (c (i 8) (c (i 8) (c3 (i 3) (i 5) (i 1)))))))] [] [] (some 1) (.alloc [.int .i64 0,
 .int .i64 0,.int .i64 0,.int .i64 0,.int .i64 0,.int .i64 0,.int .i64 0]) .nil) (.hv [] [] [] none (.st 7) (c2 (x 1) (x 14)))) (q (q (h 15 (.bSl [.int
 .i64 0] 3 [0,1,2]) (c3 (i 142) (i 164) (i 186))) (q (cl 16 13 (c2 (x 15) (n1 (.ld 7 true) (x 1)))) (s [(3,ix 1 (x 16)),(2,ix 0 (x 16))]))) (q (q (.hv
 [(18,p (b .neq (x 3) (i 0)) (.cst (.tuple #[])) (x 2)),(17,b .neq (x 3) (i 0))] [] [(b .neq (x 3) (i 0),false)] (some 19) (.bSl [.int .i64 0] 8 [0,1,2,
 3,4,5,6,7]) (c (i 142) (c (i 164) (c (i 186) (c (i 114) (c (i 25) (c3 (i 5) (i 88) (i 102)))))))) (q (.hv [] [] [(x 17,false)] (some 20) (.call false)
 (c3 (.cst (.func (.func 15) #[] #[])) (x 18) (x 19))) (.cond (p (x 17) (.cst (.bool true)) (n1 (.un .not) (x 20))) (q (s [(0,.cst (.bool false))]) .ret)
 .skip))) (q (.hv [] [] [] none (.st 1) (c2 (n2 (.iAddr 1) (x 2) (i 1)) (i 0))) (q (.hv [] [] [] none (.st 1) (c2 (n2 (.iAddr 1) (x 2) (i 7)) (i 0))) (q (q (cl
 21 16 (c2 (x 2) (n1 (.ld 7 true) (x 1)))) (s [(6,ix 2 (x 21)),(5,ix 1 (x 21)),(4,ix 0 (x 21))])) (q (q (h 22 (.bSl [.int .u8 0] 6 [0,1,2,3,4,5]) (c
 (.cst (.int .u8 49)) (c (.cst (.int .u8 50)) (c (.cst (.int .u8 51)) (c3 (.cst (.int .u8 52)) (.cst (.int .u8 53)) (.cst (.int .u8 54))))))) (q (h 23 .frz (c1
 (x 22))) (q (cl 24 18 (c2 (x 23) (.cst (.bool true)))) (q (.hv [(26,ix 1 (x 24)),(25,ix 0 (x 24))] [] [] (some 7) (.alloc [.int .i64 0,.int .i64 0,.slice
 none 0 0]) .nil) (q (.hv [] [] [] none (.st 3) (c2 (x 7) (x 25))) (s [(8,x 26)])))))) (q (q (cl 27 21 (c1 (n1 (.ld 3 true) (x 7)))) (s [(11,ix 2 (x 27)),
 (10,ix 1 (x 27)),(9,ix 0 (x 27))])) (q (q (cl 28 18 (c2 (.cst (.slice none 0 0)) (.cst (.bool false)))) (q (.hv [(30,ix 1 (x 28)),(29,ix 0 (x 28))] []
 [] (some 12) (.alloc [.int .i64 0,.int .i64 0,.slice none 0 0]) .nil) (q (.hv [] [] [] none (.st 3) (c2 (x 12) (x 29))) (s [(13,x 30)])))) (q (q (.hv [(32,
 p (p (b .eql (x 6) (i 0)) (b .eql (x 5) (i 2)) (.cst (.bool false))) (x 4) (.cst (.tuple #[]))),(31,p (b .eql (x 6) (i 0)) (b .eql (x 5) (i 2)) (.cst (.bool
 false)))] [] [(p (b .eql (x 6) (i 0)) (b .eql (x 5) (i 2)) (.cst (.bool false)),true)] (some 33) (.bSl [.int .i64 0] 3 [0,1,2]) (c3 (i 142) (i 164) (i
 186))) (q (.hv [] [] [(x 31,true)] (some 34) (.call false) (c3 (.cst (.func (.func 15) #[] #[])) (x 32) (x 33))) (s [(0,p (p (p (p (p (p (p (p (p (p (x 31)
 (x 34) (.cst (.bool false))) (b .eql (x 8) (i 0)) (.cst (.bool false))) (b .eql (ld (fa 0 (x 7))) (i 10)) (.cst (.bool false))) (b .eql (ld (fa 1 (x 7))) (i
 10)) (.cst (.bool false))) (b .eql (x 11) (i 0)) (.cst (.bool false))) (b .eql (x 10) (i 0)) (.cst (.bool false))) (b .eql (n1 .b2s (x 9)) (.cst (.string ⟨
 #[49,50,51,52,53,54] ⟩))) (.cst (.bool false))) (b .eql (x 13) (i 0)) (.cst (.bool false))) (b .eql (ld (fa 0 (x 12))) (i 10)) (.cst (.bool false))) (b
 .eql (ld (fa 1 (x 12))) (i 10)) (.cst (.bool false)))]))) .ret))))))))))
def cf12:CF:=⟨0,35,[(.var 0)],bd12,.plain⟩
def tr12:List Nat:=[0,1,2,3,4,5,6,7,8,9,10,11,12,13,14,16,18,23,24,25,26,36,41,42,43,44,45,48,53,54,55,62,63,64,65]
def bd13:Stm:=
 q (q (h 2 .box (c1 (x 1))) (s [(4,i 0),(3,.cst (.slice none 0 0))])) (q (q (q (cl 14 27 (c3 (x 0) (n1 (.ld 7 true) (x 2)) (ld (fa 4 (x 2))))) (s [(5,x
 14)])) (.cond (b .neq (x 5) (i 0)) (q (s [(4,x 5),(3,.cst (.slice none 0 0))]) .ret) .skip)) (q (q (cl 15 28 (c1 (n1 (.ld 7 true) (x 2)))) (q (.hv [(17,ix
 1 (x 15)),(16,ix 0 (x 15))] [] [] (some 6) (.alloc [.int .i64 0,.int .i64 0,.int .i64 0,.int .i64 0,.int .i64 0]) .nil) (q (.hv [] [] [] none (.st 5)
 (c2 (x 6) (x 16))) (s [(7,x 17)])))) (q (.cond (b .neq (x 7) (i 0)) (q (s [(4,x 7),(3,.cst (.slice none 0 0))]) .ret) .skip) (q (q (h 18 (.mkSl [.int .i64
 0]) (c2 (b .add (ld (fa 4 (x 2))) (ld (fa 5 (x 2)))) (b .add (ld (fa 4 (x 2))) (ld (fa 5 (x 2)))))) (s [(8,x 18)])) (q (q (s [(20,i 0),(19,ld (fa 6 (x
 2)))]) (.block 0 (.loop (q (.cond (b .lss (x 20) (x 19)) .skip (.exit 0)) (q (.block 1 (q (s [(9,x 20)]) (q (q (.hv [(21,n1 (.ld 5 true) (x 6))] [] [] (some
 22) (.call true) (c (.cst (.func (.func 30) #[] #[])) (c3 (x 0) (ld (fa 6 (x 2))) (x 9)))) (q (h 23 .callC (c3 (.cst (.func (.func 29) #[] #[])) (x 21) (x
 22))) (s [(11,ix 1 (x 23)),(10,ix 0 (x 23))]))) (q (.cond (b .neq (x 11) (i 0)) (q (s [(4,x 11),(3,.cst (.slice none 0 0))]) .ret) .skip) (q (s [(26,i
 0),(25,n1 .len (x 10)),(24,x 10)]) (.block 2 (.loop (q (.cond (b .lss (x 26) (x 25)) .skip (.exit 2)) (q (.block 3 (q (s [(13,ld (n2 (.iAddr 1) (x 24) (x
 26))),(12,x 26)]) (.hv [] [] [] none (.st 1) (c2 (n2 (.iAddr 1) (x 8) (b .add (x 9) (b .mul (x 12) (ld (fa 6 (x 2)))))) (x 13))))) (s [(26,b .add (x 26) (i
 1))])))))))))) (s [(20,b .add (x 20) (i 1))])))))) (q (s [(4,i 0),(3,x 8)]) .ret))))))
def cf13:CF:=⟨2,27,[(.var 3),(.var 4)],bd13,.plain⟩
def tr13:List Nat:=[0,1,3,4,5,6,7,8,9,10,11,12,13,14,19,25,26,27,36,38,39,43,48,49,55,56,57]
def bd14:Stm:=
 q (q (h 2 .box (c1 (x 1))) (s [(4,i 0),(3,.cst (.slice none 0 0))])) (q (q (cl 12 31 (c1 (n1 (.ld 7 true) (x 2)))) (.cond (n1 (.un .not) (x 12)) (q (s [(4,i
 14),(3,.cst (.slice none 0 0))]) .ret) .skip)) (q (.cond (b .neq (n1 .len (x 0)) (ld (fa 4 (x 2)))) (q (s [(4,i 7),(3,.cst (.slice none 0 0))]) .ret)
 .skip) (q (q (cl 13 32 (c1 (x 0))) (.cond (n1 (.un .not) (x 13)) (q (s [(4,i 3),(3,.cst (.slice none 0 0))]) .ret) .skip)) (q (s [(5,.cst (.slice none 0
 0))]) (q (s [(6,.cst (.slice none 0 0))]) (q (q (s [(7,i 0)]) (.block 0 (.loop (q (.cond (b .lss (x 7) (ld (fa 6 (x 2)))) .skip (.exit 0)) (q (.block 1 (q
 (q (.hv [(17,ld (fa 6 (x 2))),(16,x 7),(15,x 0)] [] [] (some 14) (.call true) (c2 (.cst (.func (.func 34) #[] #[])) (n1 (.ld 7 true) (x 2)))) (q (h 18
 .callC (c (.cst (.func (.func 35) #[] #[])) (c3 (x 15) (x 16) (x 17)))) (q (h 19 .callC (c3 (.cst (.func (.func 33) #[] #[])) (x 14) (x 18))) (.sets [(8,ix 0
 (x 19))] [ix 1 (x 19)])))) (q (q (.hv [(20,x 5)] [] [] (some 21) (.bSl [.slice none 0 0] 1 [0]) (c1 (x 8))) (q (h 22 (.app 1 [.slice none 0 0]) (c2 (x 20) (x
 21))) (s [(5,x 22)]))) (q (.hv [(23,x 6)] [] [] (some 24) (.bSl [.int .i64 0] 1 [0]) (c1 (i 0))) (q (h 25 (.app 1 [.int .i64 0]) (c2 (x 23) (x 24))) (s [(6,
 x 25)])))))) (s [(7,b .add (x 7) (i 1))])))))) (q (s [(9,.cst (.slice none 0 0))]) (q (q (s [(10,i 0)]) (.block 2 (.loop (q (.cond (b .lss (x 10) (b .add
 (ld (fa 4 (x 2))) (ld (fa 5 (x 2))))) .skip (.exit 2)) (q (.block 3 (q (s [(11,b .rem (x 10) (ld (fa 6 (x 2))))]) (q (q (.hv [(26,x 9)] [] [] (some 27)
 (.bSl [.int .i64 0] 1 [0]) (c1 (ld (n2 (.iAddr 1) (ld (n2 (.iAddr 1) (x 5) (x 11))) (ld (n2 (.iAddr 1) (x 6) (x 11))))))) (q (h 28 (.app 1 [.int .i64 0]) (c2
 (x 26) (x 27))) (s [(9,x 28)]))) (.hv [] [] [] none (.st 1) (c2 (n2 (.iAddr 1) (x 6) (x 11)) (b .add (ld (n2 (.iAddr 1) (x 6) (x 11))) (i 1))))))) (s [(10,b
 .add (x 10) (i 1))])))))) (q (s [(4,i 0),(3,x 9)]) .ret)))))))))
def cf14:CF:=⟨2,29,[(.var 3),(.var 4)],bd14,.plain⟩
def tr14:List Nat:=[0,1,3,4,5,6,7,8,9,11,12,13,15,23,33,34,35,37,38,39,42,44,45,46,47,48,62,73,74]
def bd15:Stm:=
 q (s [(2,.cst (.bool false))]) (q (.cond (b .neq (n1 .len (x 0)) (n1 .len (x 1))) (q (s [(2,.cst (.bool false))]) .ret) .skip) (q (q (s [(3,i 0)]) (.block 0
 (.loop (q (.cond (b .lss (x 3) (n1 .len (x 0))) .skip (.exit 0)) (q (.block 1 (.cond (b .neq (ld (n2 (.iAddr 1) (x 0) (x 3))) (ld (n2 (.iAddr 1) (x 1) (x
 3)))) (q (s [(2,.cst (.bool false))]) .ret) .skip)) (s [(3,b .add (x 3) (i 1))])))))) (q (s [(2,.cst (.bool true))]) .ret)))
def cf15:CF:=⟨2,4,[(.var 2)],bd15,.plain⟩
def tr15:List Nat:=[0,1,4,5]
def bd16:Stm:=
 q (q (h 2 .box (c1 (x 1))) (s [(5,i 0),(4,i 0),(3,.cst (.slice none 0 0))])) (.scope (q (q (q (cl 17 27 (c3 (x 0) (n1 (.ld 7 true) (x 2)) (b .add (ld (fa 4
 (x 2))) (ld (fa 5 (x 2)))))) (s [(6,x 17)])) (.cond (b .neq (x 6) (i 0)) (q (s [(5,x 6),(4,i 0),(3,.cst (.slice none 0 0))]) .ret) .skip)) (q (q (cl 18
 28 (c1 (n1 (.ld 7 true) (x 2)))) (q (.hv [(20,ix 1 (x 18)),(19,ix 0 (x 18))] [] [] (some 7) (.alloc [.int .i64 0,.int .i64 0,.int .i64 0,.int .i64 0,
 .int .i64 0]) .nil) (q (.hv [] [] [] none (.st 5) (c2 (x 7) (x 19))) (s [(8,x 20)])))) (q (.cond (b .neq (x 8) (i 0)) (q (s [(5,x 8),(4,i 0),(3,.cst
 (.slice none 0 0))]) .ret) .skip) (q (q (h 21 (.mkSl [.int .i64 0]) (c2 (ld (fa 4 (x 2))) (ld (fa 4 (x 2))))) (s [(9,x 21)])) (q (s [(10,i 0)]) (q .skip (q
 (q (s [(23,i 0),(22,ld (fa 6 (x 2)))]) (.block 0 (.loop (q (.cond (b .lss (x 23) (x 22)) .skip (.exit 0)) (q (.block 1 (q (s [(11,x 23)]) (q (q (.hv [(24,
 n1 (.ld 5 true) (x 7))] [] [] (some 25) (.call true) (c (.cst (.func (.func 30) #[] #[])) (c3 (x 0) (ld (fa 6 (x 2))) (x 11)))) (q (h 26 .callC (c (.cst
 (.func (.func 36) #[] #[])) (c3 (x 24) (x 25) (.cst (.slice none 0 0))))) (q (.hv [(28,ix 1 (x 26)),(27,ix 0 (x 26))] [] [] (some 12) (.alloc [.slice none
 0 0,.slice none 0 0]) .nil) (q (.hv [] [] [] none (.st 2) (c2 (x 12) (x 27))) (s [(13,x 28)]))))) (q (.cond (b .neq (x 13) (i 0)) (q (s [(5,i 17),(4,i
 0),(3,.cst (.slice none 0 0))]) .ret) .skip) (q (s [(10,b .add (x 10) (n1 .len (ld (fa 1 (x 12)))))]) (q (s [(31,i 0),(30,n1 .len (ld (fa 0 (x 12)))),
 (29,ld (fa 0 (x 12)))]) (.block 2 (.loop (q (.cond (b .lss (x 31) (x 30)) .skip (.exit 2)) (q (.block 3 (q (s [(15,ld (n2 (.iAddr 1) (x 29) (x 31))),(14,x
 31)]) (q (s [(16,b .add (x 11) (b .mul (x 14) (ld (fa 6 (x 2)))))]) (q (.cond (b .geq (x 16) (ld (fa 4 (x 2)))) (.exit 1) .skip) (.hv [] [] [] none (.st 1)
 (c2 (n2 (.iAddr 1) (x 9) (x 16)) (x 15))))))) (s [(31,b .add (x 31) (i 1))]))))))))))) (s [(23,b .add (x 23) (i 1))])))))) (q (s [(5,i 0),(4,x 10),(3,x
 9)]) .ret)))))))) (.alt 0 (q .skip (q (q (s [(23,i 0),(22,ld (fa 6 (x 2)))]) (.block 0 (.loop (q (.cond (b .lss (x 23) (x 22)) .skip (.exit 0)) (q (.block
 1 (q (s [(11,x 23)]) (q (q (.hv [(24,n1 (.ld 5 true) (x 7))] [] [] (some 25) (.call true) (c (.cst (.func (.func 30) #[] #[])) (c3 (x 0) (ld (fa 6 (x 2)))
 (x 11)))) (q (h 26 .callC (c (.cst (.func (.func 36) #[] #[])) (c3 (x 24) (x 25) (.cst (.slice none 0 0))))) (q (.hv [(28,ix 1 (x 26)),(27,ix 0 (x 26))] []
 [] (some 12) (.alloc [.slice none 0 0,.slice none 0 0]) .nil) (q (.hv [] [] [] none (.st 2) (c2 (x 12) (x 27))) (s [(13,x 28)]))))) (q (.cond (b .neq (x 13)
 (i 0)) (q (s [(5,i 17),(4,i 0),(3,.cst (.slice none 0 0))]) .ret) .skip) (q (s [(10,b .add (x 10) (n1 .len (ld (fa 1 (x 12)))))]) (q (s [(31,i 0),(30,
 n1 .len (ld (fa 0 (x 12)))),(29,ld (fa 0 (x 12)))]) (.block 2 (.loop (q (.cond (b .lss (x 31) (x 30)) .skip (.exit 2)) (q (.block 3 (q (s [(15,ld (n2
 (.iAddr 1) (x 29) (x 31))),(14,x 31)]) (q (s [(16,b .add (x 11) (b .mul (x 14) (ld (fa 6 (x 2)))))]) (q (.cond (b .geq (x 16) (ld (fa 4 (x 2)))) (.exit 1)
 .skip) (.hv [] [] [] none (.st 1) (c2 (n2 (.iAddr 1) (x 9) (x 16)) (x 15))))))) (s [(31,b .add (x 31) (i 1))]))))))))))) (s [(23,b .add (x 23) (i 1))]))))))
 (q (s [(5,i 0),(4,x 10),(3,x 9)]) .ret))) (.cond .nil .skip .skip)))
def cf16:CF:=⟨2,32,[(.var 3),(.var 4),(.var 5)],bd16,.plain⟩
def tr16:List Nat:=[0,1,3,4,5,6,7,8,9,10,11,12,13,14,15,16,17,25,31,32,33,39,41,42,46,51,52,53,54,63,64,65]
def bd18:Stm:=
 q (q (h 2 (.alloc [.int .i64 0,.int .i64 0,.slice none 0 0]) .nil) (s [(3,i 0)])) (q (q (cl 9 38 (c1 (x 0))) (s [(5,ix 1 (x 9)),(4,ix 0 (x 9))])) (q
 (.cond (b .neq (x 5) (i 0)) (q (q (.hv [(10,x 5)] [] [] none (.st 3) (c2 (x 2) (.node (.build [.int .i64 0,.int .i64 0,.slice none 0 0] []) .nil))) (s [(3,
 x 10)])) .ret) .skip) (q (q (cl 11 39 (c2 (n2 (.minmax true) (n1 .len (x 4)) (i 1)) (x 1))) (q (.hv [(13,ix 1 (x 11)),(12,ix 0 (x 11))] [] [] (some 6)
 (.alloc [.int .i64 0,.int .i64 0,.int .i64 0,.int .i64 0,.int .i64 0,.int .i64 0,.int .i64 0]) .nil) (q (.hv [] [] [] none (.st 7) (c2 (x 6) (x 12))) (s
 [(5,x 13)])))) (q (.cond (b .neq (x 5) (i 0)) (q (q (.hv [(14,x 5)] [] [] none (.st 3) (c2 (x 2) (.node (.build [.int .i64 0,.int .i64 0,.slice none 0 0]
 []) .nil))) (s [(3,x 14)])) .ret) .skip) (q (q (cl 15 40 (c2 (x 4) (ld (fa 4 (x 6))))) (s [(5,ix 1 (x 15)),(7,ix 0 (x 15))])) (q (.cond (b .neq (x 5) (i
 0)) (q (q (.hv [(16,x 5)] [] [] none (.st 3) (c2 (x 2) (.node (.build [.int .i64 0,.int .i64 0,.slice none 0 0] []) .nil))) (s [(3,x 16)])) .ret) .skip)
 (q (q (cl 17 13 (c2 (x 7) (n1 (.ld 7 true) (x 6)))) (s [(5,ix 1 (x 17)),(8,ix 0 (x 17))])) (q (.cond (b .neq (x 5) (i 0)) (q (q (.hv [(18,x 5)] [] [] none
 (.st 3) (c2 (x 2) (.node (.build [.int .i64 0,.int .i64 0,.slice none 0 0] []) .nil))) (s [(3,x 18)])) .ret) .skip) (q (q (cl 19 41 (c2 (x 8) (n1 (.ld 7
 true) (x 6)))) (q (.hv [(20,ix 1 (x 19))] [] [] none (.st 3) (c2 (x 2) (ix 0 (x 19)))) (s [(3,x 20)]))) .ret)))))))))
def cf18:CF:=⟨2,21,[(.node (.ld 3 true) (.cons (.var 2) .nil)),(.var 3)],bd18,.plain⟩
def tr18:List Nat:=[0,1,4,5,6,7,8,9,10,13,19,25,26,27,31,36,42,46,52,55,57]
def bd21:Stm:=
 q (q (h 1 .box (c1 (x 0))) (s [(4,i 0),(3,i 0),(2,.cst (.slice none 0 0))])) (q (q (cl 11 45 (c1 (n1 (.ld 3 true) (x 1)))) (q (.hv [(14,ix 2 (x 11)),(13,
 ix 1 (x 11)),(12,ix 0 (x 11))] [] [] (some 6) (.alloc [.int .i64 0,.int .i64 0,.int .i64 0,.int .i64 0,.int .i64 0,.int .i64 0,.int .i64 0]) .nil) (q
 (.hv [(5,x 12)] [] [] none (.st 7) (c2 (x 6) (x 13))) (s [(7,x 14)])))) (q (.cond (b .neq (x 7) (i 0)) (q (s [(4,x 7),(3,i 0),(2,.cst (.slice none 0
 0))]) .ret) .skip) (q (q (cl 15 16 (c2 (x 5) (n1 (.ld 7 true) (x 6)))) (s [(7,ix 2 (x 15)),(9,ix 1 (x 15)),(8,ix 0 (x 15))])) (q (.cond (b .neq (x 7) (i
 0)) (q (s [(4,x 7),(3,i 0),(2,.cst (.slice none 0 0))]) .ret) .skip) (q (q (cl 16 46 (c1 (x 8))) (s [(7,ix 1 (x 16)),(10,ix 0 (x 16))])) (q (.cond (b
 .neq (x 7) (i 0)) (q (s [(4,x 7),(3,i 0),(2,.cst (.slice none 0 0))]) .ret) .skip) (q (s [(4,i 0),(3,x 9),(2,x 10)]) .ret)))))))
def cf21:CF:=⟨1,17,[(.var 2),(.var 3),(.var 4)],bd21,.plain⟩
def tr21:List Nat:=[0,1,2,3,4,5,6,7,8,9,10,13,14,15,16,23,32]
def tr26:List Nat:=[0,1,2,3,34,41,46,47,48]
def bd27:Stm:=
 q (q (h 3 .box (c1 (x 1))) (s [(4,i 0)])) (q (q (.hv [(7,n1 (.ld 7 true) (x 3))] [] [] (some 6) (.call true) (c1 (.cst (.func (.func 55) #[] #[])))) (q (h 8
 .callC (c3 (.cst (.func (.func 54) #[] #[])) (x 6) (x 7))) (.cond (n1 (.un .not) (x 8)) (q (s [(4,i 14)]) .ret) .skip))) (q (.cond (b .neq (n1 .len (x 0)) (x
 2)) (q (s [(4,i 7)]) .ret) .skip) (q (q (s [(11,i 0),(10,n1 .len (x 0)),(9,x 0)]) (.block 0 (.loop (q (.cond (b .lss (x 11) (x 10)) .skip (.exit 0)) (q
 (.block 1 (q (s [(5,ld (n2 (.iAddr 1) (x 9) (x 11)))]) (.cond (p (b .lss (x 5) (i 0)) (.cst (.bool true)) (b .gtr (x 5) (i 255))) (q (s [(4,i 3)]) .ret)
 .skip))) (s [(11,b .add (x 11) (i 1))])))))) (q (s [(4,i 0)]) .ret))))
def cf27:CF:=⟨3,12,[(.var 4)],bd27,.plain⟩
def tr27:List Nat:=[0,1,2,4,6,8,9,10,11,17,18,19]
def bd28:Stm:=
 q (q (h 1 .box (c1 (x 0))) (q (h 2 (.alloc [.int .i64 0,.int .i64 0,.int .i64 0,.int .i64 0,.int .i64 0]) .nil) (s [(3,i 0)]))) (q (q (cl 6 56 (c2 (i 8) (i
 301))) (q (.hv [(8,ix 1 (x 6)),(7,ix 0 (x 6))] [] [] (some 4) (.alloc [.int .i64 0,.int .i64 0,.int .i64 0]) .nil) (q (.hv [] [] [] none (.st 3) (c2 (x
 4) (x 7))) (s [(5,x 8)])))) (q (.cond (b .neq (x 5) (i 0)) (q (q (.hv [(9,x 5)] [] [] none (.st 5) (c2 (x 2) (.node (.build [.int .i64 0,.int .i64 0,.int
 .i64 0,.int .i64 0,.int .i64 0] []) .nil))) (s [(3,x 9)])) .ret) .skip) (q (q (h 10 .callC (c (.cst (.func (.func 57) #[] #[])) (c3 (n1 (.ld 3 true) (x 4))
 (b .quo (ld (fa 5 (x 1))) (ld (fa 6 (x 1)))) (i 1)))) (q (.hv [(11,ix 1 (x 10))] [] [] none (.st 5) (c2 (x 2) (ix 0 (x 10)))) (s [(3,x 11)]))) .ret)))
def cf28:CF:=⟨1,12,[(.node (.ld 5 true) (.cons (.var 2) .nil)),(.var 3)],bd28,.plain⟩
def tr28:List Nat:=[0,1,2,3,4,5,7,8,9,13,20,22]
def bd29:Stm:=
 q (q (h 2 .box (c1 (x 0))) (s [(4,i 0),(3,.cst (.slice none 0 0))])) (q (q (cl 15 58 (c2 (n1 (.ld 5 true) (x 2)) (x 1))) (.cond (n1 (.un .not) (x 15)) (q (s
 [(4,i 1),(3,.cst (.slice none 0 0))]) .ret) .skip)) (q (q (.hv [(16,b .eql (n1 .len (x 1)) (i 0))] [] [(b .eql (n1 .len (x 1)) (i 0),false)] (some 17)
 (.call false) (c3 (.cst (.func (.func 59) #[] #[])) (n1 (.ld 5 true) (x 2)) (b .add (n1 .len (x 1)) (ld (fa 3 (x 2)))))) (.cond (p (x 16) (.cst (.bool true))
 (n1 (.un .not) (x 17))) (q (s [(4,i 7),(3,.cst (.slice none 0 0))]) .ret) .skip)) (q (q (cl 18 60 (c1 (n1 (.ld 5 true) (x 2)))) (s [(6,ix 1 (x 18)),(5,
 ix 0 (x 18))])) (q (.cond (b .neq (x 6) (i 0)) (q (s [(4,x 6),(3,.cst (.slice none 0 0))]) .ret) .skip) (q (s [(7,b .add (n1 .len (x 1)) (ld (fa 3 (x
 2))))]) (q (q (h 19 (.mkSl [.int .i64 0]) (c2 (x 7) (x 7))) (s [(8,x 19)])) (q (q (s [(22,i 0),(21,n1 .len (x 1)),(20,x 1)]) (.block 0 (.loop (q (.cond
 (b .lss (x 22) (x 21)) .skip (.exit 0)) (q (.block 1 (q (s [(10,ld (n2 (.iAddr 1) (x 20) (x 22))),(9,x 22)]) (.hv [] [] [] none (.st 1) (c2 (n2 (.iAddr 1)
 (x 8) (b .sub (b .sub (x 7) (i 1)) (x 9))) (x 10))))) (s [(22,b .add (x 22) (i 1))])))))) (q (q (.hv [(25,x 5),(23,n1 (.ld 3 true) (fa 0 (x 2)))] [] []
 (some 24) (.call true) (c2 (.cst (.func (.func 62) #[] #[])) (x 8))) (q (h 26 .callC (c (.cst (.func (.func 61) #[] #[])) (c3 (x 23) (x 24) (x 25)))) (.sets
 [(6,ix 2 (x 26)),(11,ix 1 (x 26))] [ix 0 (x 26)]))) (q (.cond (b .neq (x 6) (i 0)) (q (s [(4,x 6),(3,.cst (.slice none 0 0))]) .ret) .skip) (q (q (h 27
 (.mkSl [.int .i64 0]) (c2 (x 7) (x 7))) (s [(12,x 27)])) (q (.hv [] [] [] none (.cpy 1) (c2 (x 12) (x 1))) (q (q (s [(30,i 0),(29,n1 .len (x 11)),(28,x
 11)]) (.block 2 (.loop (q (.cond (b .lss (x 30) (x 29)) .skip (.exit 2)) (q (.block 3 (q (s [(14,ld (n2 (.iAddr 1) (x 28) (x 30))),(13,x 30)]) (q (q (.hv
 [(32,b .sub (b .sub (x 7) (i 1)) (x 13)),(31,x 12)] [] [] (some 33) (.call false) (c (.cst (.func (.func 63) #[] #[])) (c3 (n1 (.ld 3 true) (fa 0 (x 2)))
 (i 0) (x 14)))) (q (.hv [(34,ix 1 (x 33))] [] [] none (.st 1) (c2 (n2 (.iAddr 1) (x 31) (x 32)) (ix 0 (x 33)))) (s [(6,x 34)]))) (.cond (b .neq (x 6) (i 0))
 (q (s [(4,x 6),(3,.cst (.slice none 0 0))]) .ret) .skip)))) (s [(30,b .add (x 30) (i 1))])))))) (q (s [(4,i 0),(3,x 12)]) .ret)))))))))))))
def cf29:CF:=⟨2,35,[(.var 3),(.var 4)],bd29,.plain⟩
def tr29:List Nat:=[0,1,2,4,5,6,7,8,9,10,11,13,14,15,16,19,24,31,36,48,49,50,51,66,68,69,70,78,82,83,84,90,94,98,100]
def bd30:Stm:=
 q (s [(3,.cst (.slice none 0 0))]) (q (s [(4,.cst (.slice none 0 0))]) (q (q (s [(5,x 2)]) (.block 0 (.loop (q (.cond (b .lss (x 5) (n1 .len (x 0))) .skip
 (.exit 0)) (q (.block 1 (q (.hv [(6,x 4)] [] [] (some 7) (.bSl [.int .i64 0] 1 [0]) (c1 (ld (n2 (.iAddr 1) (x 0) (x 5))))) (q (h 8 (.app 1 [.int .i64 0]) (c2
 (x 6) (x 7))) (s [(4,x 8)])))) (s [(5,b .add (x 5) (x 1))])))))) (q (s [(3,x 4)]) .ret)))
def cf30:CF:=⟨3,9,[(.var 3)],bd30,.plain⟩
def tr30:List Nat:=[0,1,2,6,7,8,17,22,23]
def bd31:Stm:=
 q (q (h 1 .box (c1 (x 0))) (s [(2,.cst (.bool false))])) (q (q (cl 5 26 .nil) (s [(3,x 5)])) (q (q (s [(4,i 0)]) (.block 0 (.loop (q (.cond (b .lss (x 4) (n1
 .len (x 3))) .skip (.exit 0)) (q (.block 1 (.cond (n2 (.eqA false [1,1,1,1,1,1,1]) (n1 (.ld 7 true) (n2 (.iAddr 7) (x 3) (x 4))) (n1 (.ld 7 true) (x
 1))) (q (s [(2,.cst (.bool true))]) .ret) .skip)) (s [(4,b .add (x 4) (i 1))])))))) (q (s [(2,.cst (.bool false))]) .ret)))
def cf31:CF:=⟨1,6,[(.var 2)],bd31,.plain⟩
def tr31:List Nat:=[0,1,2,3,4,5]
def bd32:Stm:=
 q (s [(1,.cst (.bool false))]) (q (q (s [(2,i 0)]) (.block 0 (.loop (q (.cond (b .lss (x 2) (n1 .len (x 0))) .skip (.exit 0)) (q (.block 1 (.cond (p (b .lss
 (ld (n2 (.iAddr 1) (x 0) (x 2))) (i 0)) (.cst (.bool true)) (b .gtr (ld (n2 (.iAddr 1) (x 0) (x 2))) (i 255))) (q (s [(1,.cst (.bool false))]) .ret) .skip))
 (s [(2,b .add (x 2) (i 1))])))))) (q (s [(1,.cst (.bool true))]) .ret))
def cf32:CF:=⟨1,3,[(.var 1)],bd32,.plain⟩
def tr32:List Nat:=[0,2,3]
def bd33:Stm:=
 q (q (h 2 .box (c1 (x 0))) (s [(4,i 0),(3,.cst (.slice none 0 0))])) (q (q (cl 13 64 (c1 (n1 (.ld 5 true) (x 2)))) (q (.hv [(14,n1 (.un .not) (x 13))] []
 [(n1 (.un .not) (x 13),false)] (some 15) (.call false) (c3 (.cst (.func (.func 65) #[] #[])) (n1 (.ld 3 true) (fa 0 (x 2))) (x 1))) (.cond (p (x 14) (.cst
 (.bool true)) (n1 (.un .not) (x 15))) (q (s [(4,i 1),(3,.cst (.slice none 0 0))]) .ret) .skip))) (q (.cond (p (b .lss (n1 .len (x 1)) (i 1)) (.cst (.bool
 true)) (b .gtr (n1 .len (x 1)) (b .sub (b .sub (ld (fa 1 (fa 0 (x 2)))) (i 1)) (ld (fa 3 (x 2)))))) (q (s [(4,i 7),(3,.cst (.slice none 0 0))]) .ret)
 .skip) (q (q (cl 16 66 (c1 (n1 (.ld 5 true) (x 2)))) (s [(5,x 16)])) (q (s [(6,.cst (.slice none 0 0))]) (q (q (h 17 (.app 1 [.int .i64 0]) (c2 (x 6) (x
 1))) (s [(6,x 17)])) (q (q (h 18 (.mkSl [.int .i64 0]) (c2 (ld (fa 3 (x 2))) (ld (fa 3 (x 2))))) (s [(7,x 18)])) (q (q (s [(8,i 0)]) (.block 0 (.loop (q
 (.cond (b .lss (x 8) (n1 .len (x 1))) .skip (.exit 0)) (q (.block 1 (q (q (h 19 .callC (c (.cst (.func (.func 67) #[] #[])) (c3 (n1 (.ld 3 true) (fa 0 (x 2)))
 (ld (n2 (.iAddr 1) (x 1) (x 8))) (ld (n2 (.iAddr 1) (x 7) (i 0)))))) (s [(9,x 19)])) (q (s [(10,i 0)]) (.block 2 (.loop (q (.cond (b .lss (x 10) (ld (fa 3
 (x 2)))) .skip (.exit 2)) (q (.block 3 (q (s [(11,i 0)]) (q (.cond (b .lss (b .add (x 10) (i 1)) (ld (fa 3 (x 2)))) (s [(11,ld (n2 (.iAddr 1) (x 7) (b .add
 (x 10) (i 1))))]) .skip) (q (.hv [(23,x 11),(22,n1 (.ld 3 true) (fa 0 (x 2))),(21,x 10),(20,x 7)] [] [] (some 24) (.call true) (c (.cst (.func (.func
 69) #[] #[])) (c3 (n1 (.ld 3 true) (fa 0 (x 2))) (x 9) (ld (n2 (.iAddr 1) (x 5) (b .sub (b .sub (ld (fa 3 (x 2))) (i 1)) (x 10))))))) (q (h 25 .callC (c (.cst
 (.func (.func 68) #[] #[])) (c3 (x 22) (x 23) (x 24)))) (.hv [] [] [] none (.st 1) (c2 (n2 (.iAddr 1) (x 20) (x 21)) (x 25)))))))) (s [(10,b .add (x 10) (i
 1))])))))))) (s [(8,b .add (x 8) (i 1))])))))) (q (q (s [(12,i 0)]) (.block 4 (.loop (q (.cond (b .lss (x 12) (ld (fa 3 (x 2)))) .skip (.exit 4)) (q (.block
 5 (q (.hv [(26,x 6)] [] [] (some 27) .callC (c (.cst (.func (.func 68) #[] #[])) (c3 (n1 (.ld 3 true) (fa 0 (x 2))) (i 0) (ld (n2 (.iAddr 1) (x 7) (x
 12)))))) (q (h 28 (.bSl [.int .i64 0] 1 [0]) (c1 (x 27))) (q (h 29 (.app 1 [.int .i64 0]) (c2 (x 26) (x 28))) (s [(6,x 29)]))))) (s [(12,b .add (x 12) (i
 1))])))))) (q (s [(4,i 0),(3,x 6)]) .ret)))))))))
def cf33:CF:=⟨2,30,[(.var 3),(.var 4)],bd33,.plain⟩
def tr33:List Nat:=[0,1,2,4,5,6,7,8,9,10,11,12,13,15,17,21,40,43,46,62,79,80,82,83,95,96,104,111,112,113]
def bd34:Stm:=
 q (q (h 1 .box (c1 (x 0))) (h 2 (.alloc [.int .i64 0,.int .i64 0,.int .i64 0,.int .i64 0,.int .i64 0]) .nil)) (q (q (cl 4 70 (c3 (.node (.build [.int .i64
 0,.int .i64 0,.int .i64 0] [(0,1),(1,1),(2,1)]) (c3 (i 2) (i 256) (i 301))) (b .quo (ld (fa 5 (x 1))) (ld (fa 6 (x 1)))) (i 1))) (q (.hv [(6,ix 1 (x
 4)),(5,ix 0 (x 4))] [] [] (some 3) (.alloc [.int .i64 0,.int .i64 0,.int .i64 0,.int .i64 0,.int .i64 0]) .nil) (q (.hv [] [] [] none (.st 5) (c2 (x 3)
 (x 5))) (.sets [] [x 6])))) (q (.hv [] [] [] none (.st 5) (c2 (x 2) (n1 (.ld 5 true) (x 3)))) .ret))
def cf34:CF:=⟨1,7,[(.node (.ld 5 true) (.cons (.var 2) .nil))],bd34,.plain⟩
def tr34:List Nat:=[0,1,2,3,12,13,14]
def bd35:Stm:=
 q (s [(3,.cst (.slice none 0 0))]) (q (s [(4,.cst (.slice none 0 0))]) (q (q (s [(5,x 1)]) (.block 0 (.loop (q (.cond (b .lss (x 5) (n1 .len (x 0))) .skip
 (.exit 0)) (q (.block 1 (q (.hv [(6,x 4)] [] [] (some 7) (.bSl [.int .i64 0] 1 [0]) (c1 (ld (n2 (.iAddr 1) (x 0) (x 5))))) (q (h 8 (.app 1 [.int .i64 0]) (c2
 (x 6) (x 7))) (s [(4,x 8)])))) (s [(5,b .add (x 5) (x 2))])))))) (q (s [(3,x 4)]) .ret)))
def cf35:CF:=⟨3,9,[(.var 3)],bd35,.plain⟩
def tr35:List Nat:=[0,1,2,6,7,8,17,22,23]
def bd36:Stm:=
 q (q (h 3 .box (c1 (x 0))) (q (h 4 (.alloc [.slice none 0 0,.slice none 0 0]) .nil) (s [(5,i 0)]))) (q (q (cl 11 58 (c2 (n1 (.ld 5 true) (x 3)) (x 1))) (.cond
 (n1 (.un .not) (x 11)) (q (q (.hv [] [] [] none (.st 2) (c2 (x 4) (.node (.build [.slice none 0 0,.slice none 0 0] []) .nil))) (s [(5,i 1)])) .ret) .skip))
 (q (q (s [(14,i 0),(13,n1 .len (x 2)),(12,x 2)]) (.block 0 (.loop (q (.cond (b .lss (x 14) (x 13)) .skip (.exit 0)) (q (.block 1 (q (s [(6,ld (n2
 (.iAddr 1) (x 12) (x 14)))]) (.cond (p (b .lss (x 6) (i 0)) (.cst (.bool true)) (b .geq (x 6) (n1 .len (x 1)))) (q (q (.hv [] [] [] none (.st 2) (c2 (x 4)
 (.node (.build [.slice none 0 0,.slice none 0 0] []) .nil))) (s [(5,i 1)])) .ret) .skip))) (s [(14,b .add (x 14) (i 1))])))))) (q (q (cl 15 59 (c2 (n1 (.ld
 5 true) (x 3)) (n1 .len (x 1)))) (.cond (n1 (.un .not) (x 15)) (q (q (.hv [] [] [] none (.st 2) (c2 (x 4) (.node (.build [.slice none 0 0,.slice none 0 0]
 []) .nil))) (s [(5,i 7)])) .ret) .skip)) (q (q (.hv [(20,n1 .len (x 1)),(18,x 1),(17,n1 (.ld 5 true) (x 3))] [] [] (some 16) (.call true) (c2 (.cst
 (.func (.func 71) #[] #[])) (n1 (.ld 3 true) (fa 0 (x 3))))) (q (h 19 (.app 1 [.int .i64 0]) (c2 (.cst (.slice none 0 0)) (x 18))) (q (h 21 (.mkSl [.bool
 false]) (c2 (x 20) (x 20))) (q (h 22 .box (c1 (.node (.build [.int .i64 0,.int .i64 0,.slice none 0 0,.slice none 0 0,.int .i64 0,.int .i64 0,.int .i64
 0,.int .i64 0,.int .i64 0,.slice none 0 0,.slice none 0 0,.int .i64 0,.slice none 0 0,.slice none 0 0,.slice none 0 0,.slice none 0 0] [(0,4),(4,
 5),(9,1),(10,1)]) (c (x 16) (c3 (x 17) (x 19) (x 21)))))) (q (s [(7,x 22)]) (.dist (.cst (.slice none 0 0)) (x 3))))))) (q (q (s [(25,i 0),(24,n1 .len
 (x 2)),(23,x 2)]) (.block 2 (.loop (q (.cond (b .lss (x 25) (x 24)) .skip (.exit 2)) (q (.block 3 (q (s [(8,ld (n2 (.iAddr 1) (x 23) (x 25)))]) (.cond (n1
 (.un .not) (ld (n2 (.iAddr 1) (ld (fa 10 (n1 .nilChk (x 7)))) (x 8)))) (q (.hv [] [] [] none (.st 1) (c2 (n2 (.iAddr 1) (ld (fa 10 (n1 .nilChk (x 7)))) (x 8))
 (.cst (.bool true)))) (.hv [] [] [] none (.st 1) (c2 (fa 11 (n1 .nilChk (x 7))) (b .add (ld (fa 11 (n1 .nilChk (x 7)))) (i 1))))) .skip))) (s [(25,b .add (x
 25) (i 1))])))))) (q (q (cl 26 72 (c1 (x 7))) (.cond (n1 (.un .not) (x 26)) (q (q (.hv [] [] [] none (.st 2) (c2 (x 4) (.node (.build [.slice none 0 0,.slice
 none 0 0] []) .nil))) (s [(5,i 17)])) .ret) .skip)) (q (s [(9,.cst (.slice none 0 0))]) (q (q (s [(28,i 0),(27,n1 .len (x 1))]) (.block 4 (.loop (q
 (.cond (b .lss (x 28) (x 27)) .skip (.exit 4)) (q (.block 5 (q (s [(10,x 28)]) (.cond (b .neq (ld (n2 (.iAddr 1) (ld (fa 9 (n1 .nilChk (x 7)))) (x 10))) (ld
 (n2 (.iAddr 1) (x 1) (x 10)))) (q (.hv [(29,x 9)] [] [] (some 30) (.bSl [.int .i64 0] 1 [0]) (c1 (x 10))) (q (h 31 (.app 1 [.int .i64 0]) (c2 (x 29) (x 30)))
 (s [(9,x 31)]))) .skip))) (s [(28,b .add (x 28) (i 1))])))))) (q (q (.hv [] [] [] none (.st 2) (c2 (x 4) (n2 (.build [.slice none 0 0,.slice none 0 0] [(0,
 1),(1,1)]) (ld (fa 9 (n1 .nilChk (x 7)))) (x 9)))) (s [(5,i 0)])) .ret)))))))))
def cf36:CF:=⟨3,32,[(.node (.ld 2 true) (.cons (.var 4) .nil)),(.var 5)],bd36,.plain⟩
def tr36:List Nat:=[0,1,2,3,6,7,9,10,12,13,14,17,20,21,22,39,44,45,46,47,49,50,52,53,54,55,82,86,87,102,104,105]
def tr38:List Nat:=[0,2,3,8,9]
def tr39:List Nat:=[0,1,4,5,6,8,15,16,17,20]
def tr40:List Nat:=[0,1,4,5,7,8,9,10,11,12,30]
def tr41:List Nat:=[0,1,3,4,5,7,8,9,10,11,12,13,14,15,16,17,29,30,31,45,50,52,54,60,61,64,65,77,109,110,115]
def tr45:List Nat:=[0,1,2,3,4,5,6,7,8,9,10,11,12,13,15,18,21,28,30,33,39,41,42,43,57]
def tr46:List Nat:=[0,2,3,5,6,7,8,9,10,11,27,53]
def tr53:List Nat:=[0,1,2]
def bd54:Stm:=
 q (q (h 2 .box (c1 (x 1))) (s [(3,.cst (.bool false))])) (q (q (cl 4 99 (c2 (x 0) (n1 (.ld 7 true) (x 2)))) (s [(3,b .geq (x 4) (i 0))])) .ret)
def cf54:CF:=⟨2,5,[(.var 3)],bd54,.plain⟩
def tr54:List Nat:=[0,1,3,4,7]
def tr55:List Nat:=[0,1,2,3,4,35,36,37,38,40,41]
def bd56:Stm:=
 q (q (h 2 (.alloc [.int .i64 0,.int .i64 0,.int .i64 0]) .nil) (s [(3,i 0)])) (q (.cond (p (b .lss (x 0) (i 1)) (.cst (.bool true)) (b .gtr (x 0) (i 12))) (q
 (q (.hv [] [] [] none (.st 3) (c2 (x 2) (.node (.build [.int .i64 0,.int .i64 0,.int .i64 0] []) .nil))) (s [(3,i 3)])) .ret) .skip) (q (q (.hv [(5,.node
 (.build [.int .i64 0,.int .i64 0,.int .i64 0] [(0,1),(1,1),(2,1)]) (c3 (i 2) (b .shl (i 1) (x 0)) (x 1)))] [] [] (some 4) (.alloc [.int .i64 0,.int
 .i64 0,.int .i64 0]) .nil) (.hv [] [] [] none (.st 3) (c2 (x 4) (x 5)))) (q (q (cl 6 100 (c1 (n1 (.ld 3 true) (x 4)))) (.cond (n1 (.un .not) (x 6)) (q (q
 (.hv [] [] [] none (.st 3) (c2 (x 2) (.node (.build [.int .i64 0,.int .i64 0,.int .i64 0] []) .nil))) (s [(3,i 38)])) .ret) .skip)) (q (q (.hv [] [] []
 none (.st 3) (c2 (x 2) (n1 (.ld 3 true) (x 4)))) (s [(3,i 0)])) .ret))))
def cf56:CF:=⟨2,7,[(.node (.ld 3 true) (.cons (.var 2) .nil)),(.var 3)],bd56,.plain⟩
def tr56:List Nat:=[0,1,4,5,6,17,19]
def bd57:Stm:=
 q (q (h 3 .box (c1 (x 0))) (q (h 4 (.alloc [.int .i64 0,.int .i64 0,.int .i64 0,.int .i64 0,.int .i64 0]) .nil) (s [(5,i 0)]))) (q (q (cl 6 100 (c1 (n1
 (.ld 3 true) (x 3)))) (.cond (n1 (.un .not) (x 6)) (q (q (.hv [] [] [] none (.st 5) (c2 (x 4) (.node (.build [.int .i64 0,.int .i64 0,.int .i64 0,.int .i64
 0,.int .i64 0] []) .nil))) (s [(5,i 1)])) .ret) .skip)) (q (q (cl 7 101 (c3 (n1 (.ld 3 true) (x 3)) (x 1) (x 2))) (.cond (n1 (.un .not) (x 7)) (q (q (.hv []
 [] [] none (.st 5) (c2 (x 4) (.node (.build [.int .i64 0,.int .i64 0,.int .i64 0,.int .i64 0,.int .i64 0] []) .nil))) (s [(5,i 3)])) .ret) .skip)) (q (q
 (.hv [] [] [] none (.st 5) (c2 (x 4) (.node (.build [.int .i64 0,.int .i64 0,.int .i64 0,.int .i64 0,.int .i64 0] [(0,3),(3,1),(4,1)]) (c3 (n1 (.ld 3
 true) (x 3)) (x 1) (x 2))))) (s [(5,i 0)])) .ret)))
def cf57:CF:=⟨3,8,[(.node (.ld 5 true) (.cons (.var 4) .nil)),(.var 5)],bd57,.plain⟩
def tr57:List Nat:=[0,1,2,3,6,7,9,15]
def bd58:Stm:=
 q (q (h 2 .box (c1 (x 0))) (s [(3,.cst (.bool false))])) (q (q (cl 4 100 (c1 (n1 (.ld 3 true) (fa 0 (x 2))))) (q (.hv [(5,x 4)] [] [(x 4,true)] (some 6)
 (.call false) (c (.cst (.func (.func 101) #[] #[])) (c3 (n1 (.ld 3 true) (fa 0 (x 2))) (ld (fa 3 (x 2))) (ld (fa 4 (x 2)))))) (q (.hv [(7,p (x 5) (x 6) (.cst
 (.bool false)))] [] [(p (x 5) (x 6) (.cst (.bool false)),true)] (some 8) (.call false) (c3 (.cst (.func (.func 102) #[] #[])) (n1 (.ld 3 true) (fa 0 (x 2)))
 (x 1))) (s [(3,p (x 7) (x 8) (.cst (.bool false)))])))) .ret)
def cf58:CF:=⟨2,9,[(.var 3)],bd58,.plain⟩
def tr58:List Nat:=[0,1,2,4,7,8,15,17,21]
def bd59:Stm:=
 q (q (h 2 .box (c1 (x 0))) (s [(3,.cst (.bool false))])) (q (s [(3,p (b .gtr (x 1) (ld (fa 3 (x 2)))) (b .lss (x 1) (ld (fa 1 (fa 0 (x 2))))) (.cst (.bool
 false)))]) .ret)
def cf59:CF:=⟨2,4,[(.var 3)],bd59,.plain⟩
def tr59:List Nat:=[0,1,2,4]
def bd60:Stm:=
 q (q (h 1 .box (c1 (x 0))) (s [(3,i 0),(2,.cst (.slice none 0 0))])) (q (q (cl 7 58 (c2 (n1 (.ld 5 true) (x 1)) (.cst (.slice none 0 0)))) (.cond (n1 (.un
 .not) (x 7)) (q (s [(3,i 1),(2,.cst (.slice none 0 0))]) .ret) .skip)) (q (q (cl 8 71 (c1 (n1 (.ld 3 true) (fa 0 (x 1))))) (q (h 4 (.alloc [.int .i64 0,
 .int .i64 0,.slice none 0 0,.slice none 0 0]) .nil) (.hv [] [] [] none (.st 4) (c2 (x 4) (x 8))))) (q (q (h 9 (.mkSl [.int .i64 0]) (c2 (ld (fa 3 (x 1)))
 (ld (fa 3 (x 1))))) (s [(5,x 9)])) (q (q (s [(11,i 0),(10,n1 .len (x 5))]) (.block 0 (.loop (q (.cond (b .lss (x 11) (x 10)) .skip (.exit 0)) (q (.block 1
 (q (s [(6,x 11)]) (q (.hv [(13,x 6),(12,x 5)] [] [] (some 14) (.call false) (c3 (.cst (.func (.func 103) #[] #[])) (n1 (.ld 4 true) (x 4)) (b .add (ld (fa
 4 (x 1))) (x 6)))) (.hv [] [] [] none (.st 1) (c2 (n2 (.iAddr 1) (x 12) (x 13)) (x 14)))))) (s [(11,b .add (x 11) (i 1))])))))) (q (q (cl 15 104 (c2 (n1 (.ld
 3 true) (fa 0 (x 1))) (x 5))) (s [(3,ix 1 (x 15)),(2,ix 0 (x 15))])) .ret)))))
def cf60:CF:=⟨1,16,[(.var 2),(.var 3)],bd60,.plain⟩
def tr60:List Nat:=[0,1,2,3,4,5,6,8,12,15,17,18,21,22,28,34]
def bd61:Stm:=
 q (q (h 3 .box (c1 (x 0))) (s [(6,i 0),(5,.cst (.slice none 0 0)),(4,.cst (.slice none 0 0))])) (q (q (.hv [(7,n1 (.ld 3 true) (x 3))] [] [] (some 8)
 (.bSl [.slice none 0 0] 2 [0,1]) (c2 (x 1) (x 2))) (q (cl 9 105 (c2 (x 7) (x 8))) (.cond (n1 (.un .not) (x 9)) (q (s [(6,i 1),(5,.cst (.slice none 0 0)),
 (4,.cst (.slice none 0 0))]) .ret) .skip))) (q (.cond (b .eql (n1 .len (x 2)) (i 0)) (q (s [(6,i 12),(5,.cst (.slice none 0 0)),(4,.cst (.slice none 0
 0))]) .ret) .skip) (q (q (cl 10 106 (c1 (n1 (.ld 3 true) (x 3)))) (q (cl 11 107 (c3 (x 10) (x 1) (x 2))) (s [(5,ix 1 (x 11)),(4,ix 0 (x 11))]))) (q (s [(6,
 i 0),(5,x 5),(4,x 4)]) .ret))))
def cf61:CF:=⟨3,12,[(.var 4),(.var 5),(.var 6)],bd61,.plain⟩
def tr61:List Nat:=[0,1,2,3,6,7,8,9,12,13,20,23]
def bd62:Stm:=
 q (s [(1,.cst (.slice none 0 0))]) (q (s [(2,n1 .len (x 0))]) (q (.block 0 (.loop (q (.cond (p (b .gtr (x 2) (i 0)) (b .eql (ld (n2 (.iAddr 1) (x 0) (b .sub
 (x 2) (i 1)))) (i 0)) (.cst (.bool false))) .skip (.exit 0)) (.block 1 (s [(2,b .sub (x 2) (i 1))]))))) (q (q (h 3 (.app 1 [.int .i64 0]) (c2 (.cst (.slice
 none 0 0)) (n2 (.sl 1 false true false) (x 0) (x 2)))) (s [(1,x 3)])) .ret)))
def cf62:CF:=⟨1,4,[(.var 1)],bd62,.plain⟩
def tr62:List Nat:=[0,2,3,21]
def bd63:Stm:=
 q (q (h 3 .box (c1 (x 0))) (s [(5,i 0),(4,i 0)])) (q (q (.hv [(6,n1 (.ld 3 true) (x 3))] [] [] (some 7) (.bSl [.int .i64 0] 2 [0,1]) (c2 (x 1) (x 2))) (q
 (cl 8 108 (c2 (x 6) (x 7))) (.cond (n1 (.un .not) (x 8)) (q (s [(5,i 1),(4,i 0)]) .ret) .skip))) (q (.cond (b .neq (ld (fa 2 (x 3))) (i 0)) (q (s [(5,i
 0),(4,b .xor (x 1) (x 2))]) .ret) .skip) (q (s [(5,i 0),(4,b .rem (b .add (b .sub (x 1) (x 2)) (ld (fa 1 (x 3)))) (ld (fa 1 (x 3))))]) .ret)))
def cf63:CF:=⟨3,9,[(.var 4),(.var 5)],bd63,.plain⟩
def tr63:List Nat:=[0,1,2,3,6,7,8,11,12]
def bd64:Stm:=
 q (q (h 1 .box (c1 (x 0))) (s [(2,.cst (.bool false))])) (q (s [(3,ld (fa 1 (fa 0 (x 1))))]) (q (q (cl 4 109 (c1 (n1 (.ld 3 true) (fa 0 (x 1))))) (s [(2,p (p
 (p (p (x 4) (b .geq (ld (fa 3 (x 1))) (i 1)) (.cst (.bool false))) (b .leq (ld (fa 3 (x 1))) (b .sub (x 3) (i 2))) (.cst (.bool false))) (b .geq (ld (fa 4 (x
 1))) (i 0)) (.cst (.bool false))) (b .leq (ld (fa 4 (x 1))) (b .sub (x 3) (i 2))) (.cst (.bool false)))])) .ret))
def cf64:CF:=⟨1,5,[(.var 2)],bd64,.plain⟩
def tr64:List Nat:=[0,1,2,3,9]
def bd65:Stm:=
 q (q (h 2 .box (c1 (x 0))) (s [(3,.cst (.bool false))])) (q (q (s [(4,i 0)]) (.block 0 (.loop (q (.cond (b .lss (x 4) (n1 .len (x 1))) .skip (.exit 0)) (q
 (.block 1 (q (h 5 .callC (c3 (.cst (.func (.func 110) #[] #[])) (n1 (.ld 3 true) (x 2)) (ld (n2 (.iAddr 1) (x 1) (x 4))))) (.cond (n1 (.un .not) (x 5)) (q (s
 [(3,.cst (.bool false))]) .ret) .skip))) (s [(4,b .add (x 4) (i 1))])))))) (q (s [(3,.cst (.bool true))]) .ret))
def cf65:CF:=⟨2,6,[(.var 3)],bd65,.plain⟩
def tr65:List Nat:=[0,1,2,4,5,17]
def bd66:Stm:=
 q (q (h 1 .box (c1 (x 0))) (s [(2,.cst (.slice none 0 0))])) (q (q (h 6 (.bSl [.int .i64 0] 1 [0]) (c1 (i 1))) (s [(3,x 6)])) (q (q (cl 7 111 (c1 (n1 (.ld 5
 true) (x 1)))) (s [(4,x 7)])) (q (q (s [(5,i 0)]) (.block 0 (.loop (q (.cond (b .lss (x 5) (n1 .len (x 4))) .skip (.exit 0)) (q (.block 1 (q (.hv [(12,b
 .add (n1 .len (x 3)) (i 1)),(9,x 3),(8,n1 (.ld 3 true) (fa 0 (x 1)))] [] [] (some 10) (.call true) (c (.cst (.func (.func 68) #[] #[])) (c3 (n1 (.ld 3
 true) (fa 0 (x 1))) (i 0) (ld (n2 (.iAddr 1) (x 4) (x 5)))))) (q (h 11 (.bSl [.int .i64 0] 2 [0,1]) (c2 (x 10) (i 1))) (q (h 13 .callC (c (.cst (.func (.func
 112) #[] #[])) (c (x 8) (c3 (x 9) (x 11) (x 12))))) (s [(3,x 13)]))))) (s [(5,b .add (x 5) (i 1))])))))) (q (s [(2,x 3)]) .ret))))
def cf66:CF:=⟨1,14,[(.var 2)],bd66,.plain⟩
def tr66:List Nat:=[0,1,2,3,4,5,6,8,16,17,24,25,28,29]
def bd67:Stm:=
 q (q (h 3 .box (c1 (x 0))) (s [(4,i 0)])) (q (.cond (b .eql (ld (fa 0 (x 3))) (i 2)) (q (s [(4,b .xor (x 1) (x 2))]) .ret) .skip) (q (s [(4,b .rem (b .add (x
 1) (x 2)) (ld (fa 1 (x 3))))]) .ret))
def cf67:CF:=⟨3,5,[(.var 4)],bd67,.plain⟩
def tr67:List Nat:=[0,1,2,3,6]
def bd68:Stm:=
 q (q (h 3 .box (c1 (x 0))) (s [(4,i 0)])) (q (.cond (b .eql (ld (fa 0 (x 3))) (i 2)) (q (s [(4,b .xor (x 1) (x 2))]) .ret) .skip) (q (s [(4,b .rem (b .sub (b
 .add (x 1) (ld (fa 1 (x 3)))) (x 2)) (ld (fa 1 (x 3))))]) .ret))
def cf68:CF:=⟨3,5,[(.var 4)],bd68,.plain⟩
def tr68:List Nat:=[0,1,2,3,6]
def bd69:Stm:=
 q (q (h 3 .box (c1 (x 0))) (s [(4,i 0)])) (q (.cond (b .neq (ld (fa 0 (x 3))) (i 2)) (q (s [(4,b .rem (b .mul (x 1) (x 2)) (ld (fa 1 (x 3))))]) .ret) .skip)
 (q (s [(5,i 0)]) (q (q (s [(6,i 0)]) (.block 0 (.loop (q (.cond (b .gtr (b .shr (x 2) (n1 (.cvt .u64) (x 6))) (i 0)) .skip (.exit 0)) (q (.block 1 (.cond (b
 .eql (b .and (b .shr (x 2) (n1 (.cvt .u64) (x 6))) (i 1)) (i 1)) (s [(5,b .xor (x 5) (b .shl (x 1) (n1 (.cvt .u64) (x 6))))]) .skip)) (s [(6,b .add (x 6) (i
 1))])))))) (q (q (cl 7 113 (c2 (x 5) (ld (fa 2 (x 3))))) (s [(4,x 7)])) .ret))))
def cf69:CF:=⟨3,8,[(.var 4)],bd69,.plain⟩
def tr69:List Nat:=[0,1,2,3,6,7,8,40]
def bd70:Stm:=
 q (q (h 3 .box (c1 (x 0))) (q (h 4 (.alloc [.int .i64 0,.int .i64 0,.int .i64 0,.int .i64 0,.int .i64 0]) .nil) (s [(5,i 0)]))) (q (q (cl 7 109 (c1 (n1
 (.ld 3 true) (x 3)))) (.cond (n1 (.un .not) (x 7)) (q (q (.hv [] [] [] none (.st 5) (c2 (x 4) (.node (.build [.int .i64 0,.int .i64 0,.int .i64 0,.int .i64
 0,.int .i64 0] []) .nil))) (s [(5,i 1)])) .ret) .skip)) (q (q (.hv [(8,.node (.build [.int .i64 0,.int .i64 0,.int .i64 0,.int .i64 0,.int .i64 0] [(0,
 3),(3,1),(4,1)]) (c3 (n1 (.ld 3 true) (x 3)) (x 1) (x 2)))] [] [] (some 6) (.alloc [.int .i64 0,.int .i64 0,.int .i64 0,.int .i64 0,.int .i64 0])
 .nil) (.hv [] [] [] none (.st 5) (c2 (x 6) (x 8)))) (q (q (cl 9 64 (c1 (n1 (.ld 5 true) (x 6)))) (.cond (n1 (.un .not) (x 9)) (q (q (.hv [] [] [] none (.st 5)
 (c2 (x 4) (.node (.build [.int .i64 0,.int .i64 0,.int .i64 0,.int .i64 0,.int .i64 0] []) .nil))) (s [(5,i 3)])) .ret) .skip)) (q (q (.hv [] [] [] none
 (.st 5) (c2 (x 4) (n1 (.ld 5 true) (x 6)))) (s [(5,i 0)])) .ret))))
def cf70:CF:=⟨3,10,[(.node (.ld 5 true) (.cons (.var 4) .nil)),(.var 5)],bd70,.plain⟩
def tr70:List Nat:=[0,1,2,3,6,7,8,10,16,18]
def bd71:Stm:=
 q (q (h 1 .box (c1 (x 0))) (h 2 (.alloc [.int .i64 0,.int .i64 0,.slice none 0 0,.slice none 0 0]) .nil)) (q (q (cl 7 114 (c1 (n1 (.ld 3 true) (x 1))))
 (.sets [(3,ix 0 (x 7))] [ix 1 (x 7)])) (q (q (.hv [(11,ld (fa 1 (x 1))),(9,ld (fa 1 (x 1))),(8,ld (fa 0 (x 1)))] [] [] (some 10) (.mkSl [.int .i64 0])
 (c2 (b .sub (ld (fa 1 (x 1))) (i 1)) (b .sub (ld (fa 1 (x 1))) (i 1)))) (q (h 12 (.mkSl [.int .i64 0]) (c2 (x 11) (x 11))) (q (.hv [(13,.node (.build [.int
 .i64 0,.int .i64 0,.slice none 0 0,.slice none 0 0] [(0,1),(1,1),(2,1),(3,1)]) (c (x 8) (c3 (x 9) (x 10) (x 12))))] [] [] (some 4) (.alloc [.int
 .i64 0,.int .i64 0,.slice none 0 0,.slice none 0 0]) .nil) (.hv [] [] [] none (.st 4) (c2 (x 4) (x 13)))))) (q (s [(5,i 1)]) (q (q (s [(15,i 0),(14,n1
 .len (ld (fa 2 (x 4))))]) (.block 0 (.loop (q (.cond (b .lss (x 15) (x 14)) .skip (.exit 0)) (q (.block 1 (q (s [(6,x 15)]) (q (q (.hv [(20,n2 (.iAddr 1)
 (ld (fa 2 (x 4))) (x 6)),(19,x 6),(18,x 5),(17,ld (fa 3 (x 4))),(16,fa 3 (x 4))] [] [] none (.st 1) (c2 (n2 (.iAddr 1) (ld (fa 2 (x 4))) (x 6)) (x
 5))) (q (.hv [] [] [] none (.st 1) (c2 (n2 (.iAddr 1) (x 17) (x 18)) (x 19))) (.dist (x 20) (x 16)))) (q (cl 21 115 (c3 (n1 (.ld 3 true) (x 1)) (x 5) (x 3)))
 (.sets [(5,ix 0 (x 21))] [ix 1 (x 21)]))))) (s [(15,b .add (x 15) (i 1))])))))) (q (.hv [] [] [] none (.st 4) (c2 (x 2) (n1 (.ld 4 true) (x 4)))) .ret)))))
def cf71:CF:=⟨1,22,[(.node (.ld 4 true) (.cons (.var 2) .nil))],bd71,.plain⟩
def tr71:List Nat:=[0,1,2,3,5,6,7,10,14,16,20,22,23,24,27,28,34,35,36,38,39,45]
def bd72:Stm:=
 q (s [(1,.cst (.bool false))]) (q (q (h 4 (.bSl [.nilFunc] 6 [0,1,2,3,4,5]) (c (n1 (.mkF 116 1) (x 0)) (c (n1 (.mkF 117 1) (x 0)) (c (n1 (.mkF 118 1) (x
 0)) (c3 (n1 (.mkF 119 1) (x 0)) (n1 (.mkF 120 1) (x 0)) (n1 (.mkF 121 1) (x 0))))))) (s [(2,x 4)])) (q (q (s [(7,i 0),(6,n1 .len (x 2)),(5,x 2)])
 (.block 0 (.loop (q (.cond (b .lss (x 7) (x 6)) .skip (.exit 0)) (q (.block 1 (q (s [(3,ld (n2 (.iAddr 1) (x 5) (x 7)))]) (q (h 8 (.call false) (c1 (x 3)))
 (.cond (n1 (.un .not) (x 8)) (q (s [(1,.cst (.bool false))]) .ret) .skip)))) (s [(7,b .add (x 7) (i 1))])))))) (q (s [(1,.cst (.bool true))]) .ret)))
def cf72:CF:=⟨1,9,[(.var 1)],bd72,.plain⟩
def tr72:List Nat:=[0,2,3,5,18,19,20,21,26]
def tr75:List Nat:=[0,2,3,4,5,6,10,12,19]
def tr76:List Nat:=[0,2,3,4,5,6,8,10,18,34,43,44,48,49,53,54,55,59,60,63,66,67,78,79,80,84,86,89,92,93]
def tr77:List Nat:=[0,1,2,3]
def tr78:List Nat:=[0,1,4,5,6,7,8,9,10,11,12,13,14,18,20,48,73]
def tr79:List Nat:=[0,1,2,3,6,7,8,9,10,12,53]
def tr80:List Nat:=[0,1,2,6,7,8]
def tr86:List Nat:=[0,1,2]
def tr87:List Nat:=[0,1,4,5,7,8,16]
def tr88:List Nat:=[0,1,2,3]
def tr89:List Nat:=[0,1,4,5,13,17,21,22,34,38,47,48,51,55,59,63,67,71,75]
def bd99:Stm:=
 q (q (h 2 .box (c1 (x 1))) (s [(3,i 0)])) (q (q (s [(6,i 0),(5,n1 .len (x 0))]) (.block 0 (.loop (q (.cond (b .lss (x 6) (x 5)) .skip (.exit 0)) (q (.block
 1 (q (s [(4,x 6)]) (.cond (n2 (.eqA false [1,1,1,1,1,1,1]) (n1 (.ld 7 true) (x 2)) (n1 (.ld 7 true) (n2 (.iAddr 7) (x 0) (x 4)))) (q (s [(3,x 4)])
 .ret) .skip))) (s [(6,b .add (x 6) (i 1))])))))) (q (s [(3,i (-1))]) .ret))
def cf99:CF:=⟨2,7,[(.var 3)],bd99,.plain⟩
def tr99:List Nat:=[0,1,3,4,5,7,8]
def bd100:Stm:=
 q (q (h 1 .box (c1 (x 0))) (s [(2,.cst (.bool false))])) (q (.cond (b .eql (ld (fa 2 (x 1))) (i 0)) (q (q (.hv [(3,p (p (b .gtr (ld (fa 1 (x 1))) (i 2)) (b
 .leq (ld (fa 1 (x 1))) (i 4096)) (.cst (.bool false))) (n2 (.eqA false [1,1,1]) (n1 (.ld 3 true) (x 1)) (n2 (.build [.int .i64 0,.int .i64 0,.int .i64 0]
 [(0,1),(1,1)]) (ld (fa 1 (x 1))) (ld (fa 1 (x 1))))) (.cst (.bool false)))] [] [(p (p (b .gtr (ld (fa 1 (x 1))) (i 2)) (b .leq (ld (fa 1 (x 1))) (i 4096))
 (.cst (.bool false))) (n2 (.eqA false [1,1,1]) (n1 (.ld 3 true) (x 1)) (n2 (.build [.int .i64 0,.int .i64 0,.int .i64 0] [(0,1),(1,1)]) (ld (fa 1 (x
 1))) (ld (fa 1 (x 1))))) (.cst (.bool false)),true)] (some 4) (.call false) (c2 (.cst (.func (.func 148) #[] #[])) (ld (fa 1 (x 1))))) (s [(2,p (x 3) (x 4)
 (.cst (.bool false)))])) .ret) .skip) (q (q (.hv [(5,b .lss (ld (fa 2 (x 1))) (i 2))] [] [(b .lss (ld (fa 2 (x 1))) (i 2),false)] (some 6) (.call false) (c2
 (.cst (.func (.func 149) #[] #[])) (ld (fa 2 (x 1))))) (.cond (p (x 5) (.cst (.bool true)) (b .gtr (x 6) (i 12))) (q (s [(2,.cst (.bool false))]) .ret)
 .skip)) (q (q (.hv [(9,ld (fa 2 (x 1))),(7,n1 (.ld 3 true) (x 1))] [] [] (some 8) (.call true) (c2 (.cst (.func (.func 149) #[] #[])) (ld (fa 2 (x 1)))))
 (q (.hv [(10,n2 (.eqA false [1,1,1]) (x 7) (.node (.build [.int .i64 0,.int .i64 0,.int .i64 0] [(0,1),(1,1),(2,1)]) (c3 (i 2) (b .shl (i 1) (x 8))
 (x 9))))] [] [(n2 (.eqA false [1,1,1]) (x 7) (.node (.build [.int .i64 0,.int .i64 0,.int .i64 0] [(0,1),(1,1),(2,1)]) (c3 (i 2) (b .shl (i 1) (x 8))
 (x 9))),true)] (some 11) .callC (c2 (.cst (.func (.func 150) #[] #[])) (ld (fa 2 (x 1))))) (s [(2,p (x 10) (x 11) (.cst (.bool false)))]))) .ret)))
def cf100:CF:=⟨1,12,[(.var 2)],bd100,.plain⟩
def tr100:List Nat:=[0,1,2,23,26,31,34,37,40,43,46,49]
def bd101:Stm:=
 q (q (h 3 .box (c1 (x 0))) (s [(4,.cst (.bool false))])) (q (s [(4,p (p (p (b .geq (x 1) (i 1)) (b .leq (x 1) (b .sub (ld (fa 1 (x 3))) (i 2))) (.cst (.bool
 false))) (b .geq (x 2) (i 0)) (.cst (.bool false))) (b .leq (x 2) (b .sub (ld (fa 1 (x 3))) (i 2))) (.cst (.bool false)))]) .ret)
def cf101:CF:=⟨3,5,[(.var 4)],bd101,.plain⟩
def tr101:List Nat:=[0,1,2,3,6]
def bd102:Stm:=
 q (q (h 2 .box (c1 (x 0))) (s [(3,.cst (.bool false))])) (q (q (s [(7,i 0),(6,n1 .len (x 1)),(5,x 1)]) (.block 0 (.loop (q (.cond (b .lss (x 7) (x 6))
 .skip (.exit 0)) (q (.block 1 (q (s [(4,ld (n2 (.iAddr 1) (x 5) (x 7)))]) (.cond (p (b .lss (x 4) (i 0)) (.cst (.bool true)) (b .geq (x 4) (ld (fa 1 (x
 2))))) (q (s [(3,.cst (.bool false))]) .ret) .skip))) (s [(7,b .add (x 7) (i 1))])))))) (q (s [(3,.cst (.bool true))]) .ret))
def cf102:CF:=⟨2,8,[(.var 3)],bd102,.plain⟩
def tr102:List Nat:=[0,1,2,4,6,7,8,9]
def bd103:Stm:=
 q (q (h 2 .box (c1 (x 0))) (s [(3,i 0)])) (q (s [(3,ld (n2 (.iAddr 1) (ld (fa 2 (x 2))) (b .rem (x 1) (b .sub (ld (fa 1 (x 2))) (i 1)))))]) .ret)
def cf103:CF:=⟨2,4,[(.var 3)],bd103,.plain⟩
def tr103:List Nat:=[0,1,2,4]
def bd104:Stm:=
 q (q (h 2 .box (c1 (x 0))) (s [(4,i 0),(3,.cst (.slice none 0 0))])) (q (q (cl 8 105 (c2 (n1 (.ld 3 true) (x 2)) (.cst (.slice none 0 0)))) (q (.hv [(9,n1
 (.un .not) (x 8))] [] [(n1 (.un .not) (x 8),false)] (some 10) (.call false) (c3 (.cst (.func (.func 151) #[] #[])) (n1 (.ld 3 true) (x 2)) (x 1))) (.cond (p
 (x 9) (.cst (.bool true)) (n1 (.un .not) (x 10))) (q (s [(4,i 1),(3,.cst (.slice none 0 0))]) .ret) .skip))) (q (.cond (b .gtr (n1 .len (x 1)) (i 4096)) (q
 (s [(4,i 4),(3,.cst (.slice none 0 0))]) .ret) .skip) (q (q (cl 11 106 (c1 (n1 (.ld 3 true) (x 2)))) (q (h 5 (.alloc [.int .i64 0,.int .i64 0,.slice none
 0 0,.slice none 0 0]) .nil) (.hv [] [] [] none (.st 4) (c2 (x 5) (x 11))))) (q (q (h 12 (.bSl [.int .i64 0] 1 [0]) (c1 (i 1))) (s [(6,x 12)])) (q (q (s
 [(15,i 0),(14,n1 .len (x 1)),(13,x 1)]) (.block 0 (.loop (q (.cond (b .lss (x 15) (x 14)) .skip (.exit 0)) (q (.block 1 (q (s [(7,ld (n2 (.iAddr 1) (x
 13) (x 15)))]) (q (cl 16 152 (c (n1 (.ld 4 true) (x 5)) (c3 (x 6) (x 7) (i 0)))) (s [(6,x 16)])))) (s [(15,b .add (x 15) (i 1))])))))) (q (s [(4,i 0),(3,
 x 6)]) .ret))))))
def cf104:CF:=⟨2,17,[(.var 3),(.var 4)],bd104,.plain⟩
def tr104:List Nat:=[0,1,2,4,5,6,7,9,11,13,16,23,24,25,26,27,34]
def bd105:Stm:=
 q (q (h 2 .box (c1 (x 0))) (s [(3,.cst (.bool false))])) (q (q (cl 6 100 (c1 (n1 (.ld 3 true) (x 2)))) (.cond (n1 (.un .not) (x 6)) (q (s [(3,.cst (.bool
 false))]) .ret) .skip)) (q (q (s [(9,i 0),(8,n1 .len (x 1)),(7,x 1)]) (.block 0 (.loop (q (.cond (b .lss (x 9) (x 8)) .skip (.exit 0)) (q (.block 1 (q (s
 [(4,ld (n2 (.iAddr 1) (x 7) (x 9)))]) (q (s [(5,n1 .len (x 4))]) (q (.hv [(10,p (b .gtr (x 5) (i 4097)) (.cst (.bool true)) (p (b .gtr (x 5) (i 0)) (b .eql
 (ld (n2 (.iAddr 1) (x 4) (b .sub (x 5) (i 1)))) (i 0)) (.cst (.bool false))))] [] [(p (b .gtr (x 5) (i 4097)) (.cst (.bool true)) (p (b .gtr (x 5) (i 0)) (b
 .eql (ld (n2 (.iAddr 1) (x 4) (b .sub (x 5) (i 1)))) (i 0)) (.cst (.bool false))),false)] (some 11) (.call false) (c3 (.cst (.func (.func 151) #[] #[])) (n1
 (.ld 3 true) (x 2)) (x 4))) (.cond (p (x 10) (.cst (.bool true)) (n1 (.un .not) (x 11))) (q (s [(3,.cst (.bool false))]) .ret) .skip))))) (s [(9,b .add (x
 9) (i 1))])))))) (q (s [(3,.cst (.bool true))]) .ret)))
def cf105:CF:=⟨2,12,[(.var 3)],bd105,.plain⟩
def tr105:List Nat:=[0,1,2,4,6,7,9,11,12,13,33,36]
def bd106:Stm:=
 q (q (h 1 .box (c1 (x 0))) (h 2 (.alloc [.int .i64 0,.int .i64 0,.slice none 0 0,.slice none 0 0]) .nil)) (q (q (cl 7 114 (c1 (n1 (.ld 3 true) (x 1))))
 (.sets [(3,ix 0 (x 7))] [ix 1 (x 7)])) (q (q (.hv [(11,ld (fa 1 (x 1))),(9,ld (fa 1 (x 1))),(8,ld (fa 0 (x 1)))] [] [] (some 10) (.mkSl [.int .i64 0])
 (c2 (b .sub (ld (fa 1 (x 1))) (i 1)) (b .sub (ld (fa 1 (x 1))) (i 1)))) (q (h 12 (.mkSl [.int .i64 0]) (c2 (x 11) (x 11))) (q (.hv [(13,.node (.build [.int
 .i64 0,.int .i64 0,.slice none 0 0,.slice none 0 0] [(0,1),(1,1),(2,1),(3,1)]) (c (x 8) (c3 (x 9) (x 10) (x 12))))] [] [] (some 4) (.alloc [.int
 .i64 0,.int .i64 0,.slice none 0 0,.slice none 0 0]) .nil) (.hv [] [] [] none (.st 4) (c2 (x 4) (x 13)))))) (q (s [(5,i 1)]) (q (q (s [(15,i 0),(14,n1
 .len (ld (fa 2 (x 4))))]) (.block 0 (.loop (q (.cond (b .lss (x 15) (x 14)) .skip (.exit 0)) (q (.block 1 (q (s [(6,x 15)]) (q (q (.hv [(20,n2 (.iAddr 1)
 (ld (fa 2 (x 4))) (x 6)),(19,x 6),(18,x 5),(17,ld (fa 3 (x 4))),(16,fa 3 (x 4))] [] [] none (.st 1) (c2 (n2 (.iAddr 1) (ld (fa 2 (x 4))) (x 6)) (x
 5))) (q (.hv [] [] [] none (.st 1) (c2 (n2 (.iAddr 1) (x 17) (x 18)) (x 19))) (.dist (x 20) (x 16)))) (q (cl 21 115 (c3 (n1 (.ld 3 true) (x 1)) (x 5) (x 3)))
 (.sets [(5,ix 0 (x 21))] [ix 1 (x 21)]))))) (s [(15,b .add (x 15) (i 1))])))))) (q (.hv [] [] [] none (.st 4) (c2 (x 2) (n1 (.ld 4 true) (x 4)))) .ret)))))
def cf106:CF:=⟨1,22,[(.node (.ld 4 true) (.cons (.var 2) .nil))],bd106,.plain⟩
def tr106:List Nat:=[0,1,2,3,5,6,7,10,14,16,20,22,23,24,27,28,34,35,36,38,39,45]
def bd107:Stm:=
 q (q (h 3 .box (c1 (x 0))) (s [(5,.cst (.slice none 0 0)),(4,.cst (.slice none 0 0))])) (q (q (h 11 (.app 1 [.int .i64 0]) (c2 (.cst (.slice none 0 0)) (x
 1))) (s [(5,x 11)])) (q (s [(6,b .sub (n1 .len (x 2)) (i 1))]) (q (.cond (b .gtr (n1 .len (x 1)) (x 6)) (q (h 12 (.mkSl [.int .i64 0]) (c2 (b .sub (n1 .len
 (x 1)) (x 6)) (b .sub (n1 .len (x 1)) (x 6)))) (s [(4,x 12)])) .skip) (q (q (s [(7,b .sub (n1 .len (x 4)) (i 1))]) (.block 0 (.loop (q (.cond (b .geq (x 7)
 (i 0)) .skip (.exit 0)) (q (.block 1 (q (q (h 13 .callC (c (.cst (.func (.func 153) #[] #[])) (c3 (n1 (.ld 4 true) (x 3)) (ld (n2 (.iAddr 1) (x 5) (b .add (x
 7) (x 6)))) (ld (n2 (.iAddr 1) (x 2) (x 6)))))) (s [(8,x 13)])) (q (.hv [] [] [] none (.st 1) (c2 (n2 (.iAddr 1) (x 4) (x 7)) (x 8))) (q (s [(16,i 0),(15,
 n1 .len (x 2)),(14,x 2)]) (.block 2 (.loop (q (.cond (b .lss (x 16) (x 15)) .skip (.exit 2)) (q (.block 3 (q (s [(10,ld (n2 (.iAddr 1) (x 14) (x 16))),(9,
 x 16)]) (q (.hv [(20,ld (n2 (.iAddr 1) (x 5) (b .add (x 7) (x 9)))),(19,n1 (.ld 4 true) (x 3)),(18,b .add (x 7) (x 9)),(17,x 5)] [] [] (some 21) (.call
 true) (c (.cst (.func (.func 155) #[] #[])) (c3 (n1 (.ld 4 true) (x 3)) (x 8) (x 10)))) (q (h 22 .callC (c (.cst (.func (.func 154) #[] #[])) (c3 (x 19) (x
 20) (x 21)))) (.hv [] [] [] none (.st 1) (c2 (n2 (.iAddr 1) (x 17) (x 18)) (x 22))))))) (s [(16,b .add (x 16) (i 1))]))))))))) (s [(7,b .sub (x 7) (i
 1))])))))) (q (q (.hv [(23,x 4)] [] [] (some 24) (.call false) (c2 (.cst (.func (.func 62) #[] #[])) (x 5))) (s [(5,x 24),(4,x 23)])) .ret)))))
def cf107:CF:=⟨3,25,[(.var 4),(.var 5)],bd107,.plain⟩
def tr107:List Nat:=[0,1,2,3,6,7,8,9,10,11,12,14,26,45,50,51,52,57,60,61,67,71,72,75,77]
def bd108:Stm:=
 q (q (h 2 .box (c1 (x 0))) (s [(3,.cst (.bool false))])) (q (q (cl 5 100 (c1 (n1 (.ld 3 true) (x 2)))) (.cond (n1 (.un .not) (x 5)) (q (s [(3,.cst (.bool
 false))]) .ret) .skip)) (q (q (s [(8,i 0),(7,n1 .len (x 1)),(6,x 1)]) (.block 0 (.loop (q (.cond (b .lss (x 8) (x 7)) .skip (.exit 0)) (q (.block 1 (q (s
 [(4,ld (n2 (.iAddr 1) (x 6) (x 8)))]) (.cond (p (b .lss (x 4) (i 0)) (.cst (.bool true)) (b .geq (x 4) (ld (fa 1 (x 2))))) (q (s [(3,.cst (.bool false))])
 .ret) .skip))) (s [(8,b .add (x 8) (i 1))])))))) (q (s [(3,.cst (.bool true))]) .ret)))
def cf108:CF:=⟨2,9,[(.var 3)],bd108,.plain⟩
def tr108:List Nat:=[0,1,2,4,6,8,10,11,12]
def bd109:Stm:=
 q (q (h 1 .box (c1 (x 0))) (s [(2,.cst (.bool false))])) (q (.cond (b .eql (ld (fa 0 (x 1))) (i 2)) (q (q (cl 4 156 (c1 (ld (fa 1 (x 1))))) (s [(3,x 4)])) (q
 (q (.hv [(5,p (p (p (b .geq (x 3) (i 1)) (b .leq (x 3) (i 12)) (.cst (.bool false))) (b .eql (ld (fa 1 (x 1))) (b .shl (i 1) (n1 (.cvt .u64) (x 3)))) (.cst
 (.bool false))) (b .lss (ld (fa 2 (x 1))) (b .shl (i 1) (n1 (.cvt .u64) (b .add (x 3) (i 1))))) (.cst (.bool false)))] [] [(p (p (p (b .geq (x 3) (i 1)) (b
 .leq (x 3) (i 12)) (.cst (.bool false))) (b .eql (ld (fa 1 (x 1))) (b .shl (i 1) (n1 (.cvt .u64) (x 3)))) (.cst (.bool false))) (b .lss (ld (fa 2 (x 1))) (b
 .shl (i 1) (n1 (.cvt .u64) (b .add (x 3) (i 1))))) (.cst (.bool false)),true)] (some 6) (.call false) (c3 (.cst (.func (.func 157) #[] #[])) (ld (fa 2 (x
 1))) (x 3))) (s [(2,p (x 5) (x 6) (.cst (.bool false)))])) .ret)) .skip) (q (q (.hv [(7,p (p (p (b .eql (ld (fa 0 (x 1))) (ld (fa 1 (x 1)))) (b .eql (ld (fa
 2 (x 1))) (i 0)) (.cst (.bool false))) (b .geq (ld (fa 1 (x 1))) (i 3)) (.cst (.bool false))) (b .leq (ld (fa 1 (x 1))) (i 4096)) (.cst (.bool false)))] []
 [(p (p (p (b .eql (ld (fa 0 (x 1))) (ld (fa 1 (x 1)))) (b .eql (ld (fa 2 (x 1))) (i 0)) (.cst (.bool false))) (b .geq (ld (fa 1 (x 1))) (i 3)) (.cst (.bool
 false))) (b .leq (ld (fa 1 (x 1))) (i 4096)) (.cst (.bool false)),true)] (some 8) (.call false) (c2 (.cst (.func (.func 158) #[] #[])) (ld (fa 1 (x 1))))) (s
 [(2,p (x 7) (x 8) (.cst (.bool false)))])) .ret))
def cf109:CF:=⟨1,9,[(.var 2)],bd109,.plain⟩
def tr109:List Nat:=[0,1,2,3,9,33,37,59,62]
def bd110:Stm:=
 q (q (h 2 .box (c1 (x 0))) (s [(3,.cst (.bool false))])) (q (s [(3,p (b .geq (x 1) (i 0)) (b .lss (x 1) (ld (fa 1 (x 2)))) (.cst (.bool false)))]) .ret)
def cf110:CF:=⟨2,4,[(.var 3)],bd110,.plain⟩
def tr110:List Nat:=[0,1,2,4]
def bd111:Stm:=
 q (q (h 1 .box (c1 (x 0))) (s [(2,.cst (.slice none 0 0))])) (q (q (cl 7 159 (c1 (n1 (.ld 3 true) (fa 0 (x 1))))) (s [(3,x 7)])) (q (s [(4,.cst (.slice none
 0 0))]) (q (q (cl 8 160 (c3 (n1 (.ld 3 true) (fa 0 (x 1))) (x 3) (ld (fa 4 (x 1))))) (s [(5,x 8)])) (q (q (s [(6,i 0)]) (.block 0 (.loop (q (.cond (b .lss
 (x 6) (ld (fa 3 (x 1)))) .skip (.exit 0)) (q (.block 1 (q (q (.hv [(9,x 4)] [] [] (some 10) (.bSl [.int .i64 0] 1 [0]) (c1 (x 5))) (q (h 11 (.app 1 [.int
 .i64 0]) (c2 (x 9) (x 10))) (s [(4,x 11)]))) (q (cl 12 69 (c3 (n1 (.ld 3 true) (fa 0 (x 1))) (x 5) (x 3))) (s [(5,x 12)])))) (s [(6,b .add (x 6) (i
 1))])))))) (q (s [(2,x 4)]) .ret)))))
def cf111:CF:=⟨1,13,[(.var 2)],bd111,.plain⟩
def tr111:List Nat:=[0,1,2,3,4,5,6,9,15,22,24,25,30]
def bd112:Stm:=
 q (q (h 4 .box (c1 (x 0))) (s [(5,.cst (.slice none 0 0))])) (q (q (h 9 (.mkSl [.int .i64 0]) (c2 (n2 (.minmax false) (x 3) (n2 (.minmax true) (i 0) (b .sub (b
 .add (n1 .len (x 1)) (n1 .len (x 2))) (i 1)))) (n2 (.minmax false) (x 3) (n2 (.minmax true) (i 0) (b .sub (b .add (n1 .len (x 1)) (n1 .len (x 2))) (i 1))))))
 (s [(6,x 9)])) (q (q (s [(7,i 0)]) (.block 0 (.loop (q (.cond (b .lss (x 7) (n1 .len (x 1))) .skip (.exit 0)) (q (.block 1 (q (s [(8,i 0)]) (.block 2
 (.loop (q (.cond (p (b .lss (x 8) (n1 .len (x 2))) (b .lss (b .add (x 7) (x 8)) (n1 .len (x 6))) (.cst (.bool false))) .skip (.exit 2)) (q (.block 3 (q (.hv
 [(13,ld (n2 (.iAddr 1) (x 6) (b .add (x 7) (x 8)))),(12,n1 (.ld 3 true) (x 4)),(11,b .add (x 7) (x 8)),(10,x 6)] [] [] (some 14) (.call true) (c (.cst
 (.func (.func 69) #[] #[])) (c3 (n1 (.ld 3 true) (x 4)) (ld (n2 (.iAddr 1) (x 1) (x 7))) (ld (n2 (.iAddr 1) (x 2) (x 8)))))) (q (h 15 .callC (c (.cst (.func
 (.func 67) #[] #[])) (c3 (x 12) (x 13) (x 14)))) (.hv [] [] [] none (.st 1) (c2 (n2 (.iAddr 1) (x 10) (x 11)) (x 15)))))) (s [(8,b .add (x 8) (i 1))])))))))
 (s [(7,b .add (x 7) (i 1))])))))) (q (s [(5,x 6)]) .ret)))
def cf112:CF:=⟨4,16,[(.var 5)],bd112,.plain⟩
def tr112:List Nat:=[0,1,2,3,4,8,9,10,11,21,42,45,46,52,62,63]
def bd113:Stm:=
 q (s [(2,i 0)]) (q (q (cl 5 156 (c1 (x 1))) (s [(3,x 5)])) (q (q (q (cl 6 156 (c1 (x 0))) (s [(4,x 6)])) (.block 0 (.loop (q (.cond (b .geq (x 4) (x 3))
 .skip (.exit 0)) (q (.block 1 (.cond (b .eql (b .and (b .shr (x 0) (n1 (.cvt .u64) (x 4))) (i 1)) (i 1)) (s [(0,b .xor (x 0) (b .shl (x 1) (n1 (.cvt .u64) (b
 .sub (x 4) (x 3)))))]) .skip)) (s [(4,b .sub (x 4) (i 1))])))))) (q (s [(2,x 0)]) .ret)))
def cf113:CF:=⟨2,7,[(.var 2)],bd113,.plain⟩
def tr113:List Nat:=[0,1,4,5,6,8,10]
def bd114:Stm:=
 q (q (h 1 .box (c1 (x 0))) (s [(3,i 0),(2,i 0)])) (q (q (cl 4 108 (c2 (n1 (.ld 3 true) (x 1)) (.cst (.slice none 0 0)))) (.cond (n1 (.un .not) (x 4)) (q (s
 [(3,i 1),(2,i 0)]) .ret) .skip)) (q (q (cl 5 161 (c1 (n1 (.ld 3 true) (x 1)))) (s [(3,i 0),(2,x 5)])) .ret))
def cf114:CF:=⟨1,6,[(.var 2),(.var 3)],bd114,.plain⟩
def tr114:List Nat:=[0,1,2,3,5,8]
def bd115:Stm:=
 q (q (h 3 .box (c1 (x 0))) (s [(5,i 0),(4,i 0)])) (q (q (.hv [(6,n1 (.ld 3 true) (x 3))] [] [] (some 7) (.bSl [.int .i64 0] 2 [0,1]) (c2 (x 1) (x 2))) (q
 (cl 8 108 (c2 (x 6) (x 7))) (.cond (n1 (.un .not) (x 8)) (q (s [(5,i 1),(4,i 0)]) .ret) .skip))) (q (q (cl 9 162 (c3 (n1 (.ld 3 true) (x 3)) (x 1) (x 2)))
 (s [(5,i 0),(4,x 9)])) .ret))
def cf115:CF:=⟨3,10,[(.var 4),(.var 5)],bd115,.plain⟩
def tr115:List Nat:=[0,1,2,3,6,7,8,11,12,17]
def bd116:Stm:=
 q (s [(1,.cst (.bool false))]) (q (q (.hv [(2,x 0)] [] [] (some 3) .callC (c (.cst (.func (.func 163) #[] #[])) (c3 (n1 (.ld 4 true) (fa 0 (n1 .nilChk (x
 0)))) (n1 (.ld 5 true) (fa 4 (n1 .nilChk (x 0)))) (ld (fa 9 (n1 .nilChk (x 0))))))) (.hv [] [] [] none (.st 1) (c2 (fa 12 (n1 .nilChk (x 2))) (x 3)))) (q (s
 [(1,b .leq (ld (fa 11 (n1 .nilChk (x 0)))) (ld (fa 3 (fa 4 (n1 .nilChk (x 0))))))]) .ret))
def cf116:CF:=⟨1,4,[(.var 1)],bd116,.plain⟩
def tr116:List Nat:=[0,2,3,16]
def bd117:Stm:=
 q (s [(1,.cst (.bool false))]) (q (q (.hv [(4,x 0)] [] [] (some 5) (.bSl [.int .i64 0] 1 [0]) (c1 (i 1))) (.hv [] [] [] none (.st 1) (c2 (fa 13 (n1 .nilChk (x
 4))) (x 5)))) (q (q (s [(8,i 0),(7,n1 .len (ld (fa 10 (n1 .nilChk (x 0))))),(6,ld (fa 10 (n1 .nilChk (x 0))))]) (.block 0 (.loop (q (.cond (b .lss (x 8)
 (x 7)) .skip (.exit 0)) (q (.block 1 (q (s [(3,ld (n2 (.iAddr 1) (x 6) (x 8))),(2,x 8)]) (.cond (x 3) (q (.hv [(13,n1 (.ld 4 true) (fa 0 (n1 .nilChk (x
 0)))),(12,ld (fa 13 (n1 .nilChk (x 0)))),(11,ld (fa 13 (n1 .nilChk (x 0)))),(10,n1 (.ld 4 true) (fa 0 (n1 .nilChk (x 0)))),(9,x 0)] [] [] (some 14)
 (.call true) (c3 (.cst (.func (.func 165) #[] #[])) (x 0) (x 2))) (q (h 15 (.call true) (c3 (.cst (.func (.func 103) #[] #[])) (x 13) (x 14))) (q (h 16 .callC
 (c (.cst (.func (.func 164) #[] #[])) (c (x 10) (c (x 11) (c3 (x 12) (i 1) (x 15)))))) (.hv [] [] [] none (.st 1) (c2 (fa 13 (n1 .nilChk (x 9))) (x 16))))))
 .skip))) (s [(8,b .add (x 8) (i 1))])))))) (q (s [(1,.cst (.bool true))]) .ret)))
def cf117:CF:=⟨1,17,[(.var 1)],bd117,.plain⟩
def tr117:List Nat:=[0,2,3,4,5,6,12,13,14,20,24,28,32,36,39,40,41]
def bd118:Stm:=
 q (s [(1,.cst (.bool false))]) (q (q (h 3 .callC (c (.cst (.func (.func 166) #[] #[])) (c (n1 (.ld 4 true) (fa 0 (n1 .nilChk (x 0)))) (c3 (ld (fa 12 (n1
 .nilChk (x 0)))) (ld (fa 13 (n1 .nilChk (x 0)))) (ld (fa 3 (fa 4 (n1 .nilChk (x 0))))))))) (s [(2,x 3)])) (q (q (.hv [(4,x 0)] [] [] (some 5) .callC (c3
 (.cst (.func (.func 167) #[] #[])) (n1 (.ld 4 true) (fa 0 (n1 .nilChk (x 0)))) (n2 (.sl 1 true false false) (x 2) (ld (fa 11 (n1 .nilChk (x 0))))))) (.hv []
 [] [] none (.st 1) (c2 (fa 14 (n1 .nilChk (x 4))) (x 5)))) (q (s [(1,b .leq (b .add (b .mul (i 2) (b .sub (n1 .len (ld (fa 14 (n1 .nilChk (x 0))))) (i 1)))
 (ld (fa 11 (n1 .nilChk (x 0))))) (ld (fa 3 (fa 4 (n1 .nilChk (x 0))))))]) .ret)))
def cf118:CF:=⟨1,6,[(.var 1)],bd118,.plain⟩
def tr118:List Nat:=[0,2,3,21,22,33]
def bd119:Stm:=
 q (s [(1,.cst (.bool false))]) (q (s [(2,i 0)]) (q (q (s [(8,i 0),(7,n1 .len (ld (fa 10 (n1 .nilChk (x 0))))),(6,ld (fa 10 (n1 .nilChk (x 0))))]) (.block
 0 (.loop (q (.cond (b .lss (x 8) (x 7)) .skip (.exit 0)) (q (.block 1 (q (s [(4,ld (n2 (.iAddr 1) (x 6) (x 8))),(3,x 8)]) (q (q (.hv [(10,b .sub (ld (fa 1
 (fa 0 (n1 .nilChk (x 0))))) (i 1)),(9,n1 (.ld 4 true) (fa 0 (n1 .nilChk (x 0))))] [] [] (some 11) (.call true) (c3 (.cst (.func (.func 165) #[] #[])) (x 0)
 (x 3))) (q (h 12 .callC (c3 (.cst (.func (.func 103) #[] #[])) (x 9) (b .sub (x 10) (x 11)))) (s [(5,x 12)]))) (q (.hv [(13,n1 (.un .not) (x 4))] [] [(n1
 (.un .not) (x 4),true)] (some 14) .callC (c (.cst (.func (.func 168) #[] #[])) (c3 (n1 (.ld 4 true) (fa 0 (n1 .nilChk (x 0)))) (ld (fa 14 (n1 .nilChk (x
 0)))) (x 5)))) (.cond (p (x 13) (b .eql (x 14) (i 0)) (.cst (.bool false))) (q (s [(2,b .add (x 2) (i 1))]) (q (.hv [(16,ld (fa 15 (n1 .nilChk (x 0)))),
 (15,x 0)] [] [] (some 17) (.bSl [.int .i64 0] 1 [0]) (c1 (x 3))) (q (h 18 (.app 1 [.int .i64 0]) (c2 (x 16) (x 17))) (.hv [] [] [] none (.st 1) (c2 (fa 15
 (n1 .nilChk (x 15))) (x 18)))))) (.cond (x 4) (q (.hv [(20,ld (fa 15 (n1 .nilChk (x 0)))),(19,x 0)] [] [] (some 21) (.bSl [.int .i64 0] 1 [0]) (c1 (x 3)))
 (q (h 22 (.app 1 [.int .i64 0]) (c2 (x 20) (x 21))) (.hv [] [] [] none (.st 1) (c2 (fa 15 (n1 .nilChk (x 19))) (x 22))))) .skip)))))) (s [(8,b .add (x 8) (i
 1))])))))) (q (s [(1,b .eql (x 2) (b .sub (n1 .len (ld (fa 14 (n1 .nilChk (x 0))))) (i 1)))]) .ret)))
def cf119:CF:=⟨1,23,[(.var 1)],bd119,.plain⟩
def tr119:List Nat:=[0,2,3,4,5,6,10,11,12,20,26,29,31,34,44,49,53,55,56,60,64,66,67]
def bd120:Stm:=
 q (s [(1,.cst (.bool false))]) (q (q (h 9 .callC (c (.cst (.func (.func 166) #[] #[])) (c (n1 (.ld 4 true) (fa 0 (n1 .nilChk (x 0)))) (c3 (ld (fa 13 (n1
 .nilChk (x 0)))) (ld (fa 14 (n1 .nilChk (x 0)))) (b .sub (b .add (n1 .len (ld (fa 13 (n1 .nilChk (x 0))))) (n1 .len (ld (fa 14 (n1 .nilChk (x 0)))))) (i
 1)))))) (s [(2,x 9)])) (q (q (h 10 .callC (c (.cst (.func (.func 166) #[] #[])) (c (n1 (.ld 4 true) (fa 0 (n1 .nilChk (x 0)))) (c3 (ld (fa 12 (n1 .nilChk (x
 0)))) (x 2) (ld (fa 3 (fa 4 (n1 .nilChk (x 0))))))))) (s [(3,x 10)])) (q (q (cl 11 169 (c2 (n1 (.ld 4 true) (fa 0 (n1 .nilChk (x 0)))) (x 2))) (s [(4,x
 11)])) (q (q (s [(14,i 0),(13,n1 .len (ld (fa 15 (n1 .nilChk (x 0))))),(12,ld (fa 15 (n1 .nilChk (x 0))))]) (.block 0 (.loop (q (.cond (b .lss (x 14) (x
 13)) .skip (.exit 0)) (q (.block 1 (q (s [(5,ld (n2 (.iAddr 1) (x 12) (x 14)))]) (q (q (.hv [(16,b .sub (ld (fa 1 (fa 0 (n1 .nilChk (x 0))))) (i 1)),(15,
 n1 (.ld 4 true) (fa 0 (n1 .nilChk (x 0))))] [] [] (some 17) (.call true) (c3 (.cst (.func (.func 165) #[] #[])) (x 0) (x 5))) (q (h 18 .callC (c3 (.cst (.func
 (.func 103) #[] #[])) (x 15) (b .sub (x 16) (x 17)))) (s [(6,x 18)]))) (q (q (.hv [(21,b .sub (b .add (ld (fa 4 (fa 4 (n1 .nilChk (x 0))))) (ld (fa 1 (fa 0
 (n1 .nilChk (x 0)))))) (i 2)),(19,n1 (.ld 4 true) (fa 0 (n1 .nilChk (x 0))))] [] [] (some 20) (.call true) (c3 (.cst (.func (.func 165) #[] #[])) (x 0) (x
 5))) (q (h 22 .callC (c3 (.cst (.func (.func 103) #[] #[])) (x 19) (b .mul (x 20) (x 21)))) (s [(7,x 22)]))) (q (q (.hv [(24,x 7),(23,n1 (.ld 4 true) (fa
 0 (n1 .nilChk (x 0))))] [] [] (some 25) (.call true) (c (.cst (.func (.func 168) #[] #[])) (c3 (n1 (.ld 4 true) (fa 0 (n1 .nilChk (x 0)))) (x 4) (x 6)))) (q
 (h 26 .callC (c (.cst (.func (.func 170) #[] #[])) (c3 (x 23) (x 24) (x 25)))) (s [(8,x 26)]))) (q (.cond (b .eql (x 8) (i 0)) (q (s [(1,.cst (.bool
 false))]) .ret) .skip) (q (.hv [(33,x 8),(31,n1 (.ld 4 true) (fa 0 (n1 .nilChk (x 0)))),(30,ld (n2 (.iAddr 1) (ld (fa 9 (n1 .nilChk (x 0)))) (x 5))),
 (29,n1 (.ld 4 true) (fa 0 (n1 .nilChk (x 0)))),(28,x 5),(27,ld (fa 9 (n1 .nilChk (x 0))))] [] [] (some 32) (.call true) (c (.cst (.func (.func 168) #[]
 #[])) (c3 (n1 (.ld 4 true) (fa 0 (n1 .nilChk (x 0)))) (x 3) (x 6)))) (q (h 34 (.call true) (c (.cst (.func (.func 172) #[] #[])) (c3 (x 31) (x 32) (x 33))))
 (q (h 35 (.call true) (c (.cst (.func (.func 171) #[] #[])) (c3 (x 29) (x 30) (x 34)))) (.hv [] [] [] none (.st 1) (c2 (n2 (.iAddr 1) (x 27) (x 28)) (x
 35)))))))))))) (s [(14,b .add (x 14) (i 1))])))))) (q (s [(1,.cst (.bool true))]) .ret)))))
def cf120:CF:=⟨1,36,[(.var 1)],bd120,.plain⟩
def tr120:List Nat:=[0,2,3,4,5,7,8,9,10,35,50,56,60,61,62,69,75,78,80,84,87,99,101,105,106,113,114,120,121,125,132,136,143,144,145,146]
def bd121:Stm:=
 q (s [(1,.cst (.bool false))]) (q (q (q (.hv [(5,i 0)] [] [] (some 3) .callC (c (.cst (.func (.func 163) #[] #[])) (c3 (n1 (.ld 4 true) (fa 0 (n1 .nilChk (x
 0)))) (n1 (.ld 5 true) (fa 4 (n1 .nilChk (x 0)))) (ld (fa 9 (n1 .nilChk (x 0))))))) (s [(4,n1 .len (x 3))])) (.block 0 (.loop (q (.cond (b .lss (x 5) (x 4))
 .skip (.exit 0)) (q (.block 1 (q (s [(2,ld (n2 (.iAddr 1) (x 3) (x 5)))]) (.cond (b .neq (x 2) (i 0)) (q (s [(1,.cst (.bool false))]) .ret) .skip))) (s [(5,
 b .add (x 5) (i 1))])))))) (q (s [(1,.cst (.bool true))]) .ret))
def cf121:CF:=⟨1,6,[(.var 1)],bd121,.plain⟩
def tr121:List Nat:=[0,2,4,17,18,19]
def tr128:List Nat:=[0,1,4,5,6,7,8,10,11,12,15,19,23,24,28,29,30,33,36]
def tr129:List Nat:=[0,1,2,6,7,9,13,14,15,18,21,30,35,44]
def tr130:List Nat:=[0,2]
def tr131:List Nat:=[0,1,4,5,6,7,8,18,30,33,38,45]
def tr132:List Nat:=[0,1,2,3]
def tr133:List Nat:=[0,1,2,3,8,9]
def tr134:List Nat:=[0,1,2,6]
def tr135:List Nat:=[0,1,2,3]
def tr138:List Nat:=[0,2,3,37,41,45,46]
def tr139:List Nat:=[0,1,4,5,6,7,8,9,11,12,13,16,17,18,19,26,27,52,60,64,66,67]
def tr140:List Nat:=[0,2,3,4,5,6,7,8,11,22,34,35,39,44,48,51,52]
def tr141:List Nat:=[0,2,3,4,5,7,10,11,12,13,20,21,24,28,30,31,32]
def tr142:List Nat:=[0,2,3,4,5,6,7,8,87,91,94,95]
def bd148:Stm:=
 q (s [(1,.cst (.bool false))]) (q (q (s [(2,i 2)]) (.block 0 (.loop (q (.cond (b .leq (b .mul (x 2) (x 2)) (x 0)) .skip (.exit 0)) (q (.block 1 (.cond (b .eql
 (b .rem (x 0) (x 2)) (i 0)) (q (s [(1,.cst (.bool false))]) .ret) .skip)) (s [(2,b .add (x 2) (i 1))])))))) (q (s [(1,.cst (.bool true))]) .ret))
def cf148:CF:=⟨1,3,[(.var 1)],bd148,.plain⟩
def tr148:List Nat:=[0,2,3]
def bd149:Stm:=
 q (s [(1,i 0)]) (q (q (cl 2 189 (c1 (n1 (.cvt .u64) (x 0)))) (s [(1,b .sub (x 2) (i 1))])) .ret)
def cf149:CF:=⟨1,3,[(.var 1)],bd149,.plain⟩
def tr149:List Nat:=[0,2,5]
def bd150:Stm:=
 q (s [(1,.cst (.bool false))]) (q (q (s [(2,i 2)]) (.block 0 (.loop (q (q (cl 3 149 (c1 (x 2))) (q (.hv [(4,b .mul (i 2) (x 3))] [] [] (some 5) (.call false)
 (c2 (.cst (.func (.func 149) #[] #[])) (x 0))) (.cond (b .leq (x 4) (x 5)) .skip (.exit 0)))) (q (.block 1 (q (cl 6 190 (c2 (x 0) (x 2))) (.cond (b .eql (x 6)
 (i 0)) (q (s [(1,.cst (.bool false))]) .ret) .skip))) (s [(2,b .add (x 2) (i 1))])))))) (q (s [(1,.cst (.bool true))]) .ret))
def cf150:CF:=⟨1,7,[(.var 1)],bd150,.plain⟩
def tr150:List Nat:=[0,2,3,5,6,8,14]
def bd151:Stm:=
 q (q (h 2 .box (c1 (x 0))) (s [(3,.cst (.bool false))])) (q (q (s [(7,i 0),(6,n1 .len (x 1)),(5,x 1)]) (.block 0 (.loop (q (.cond (b .lss (x 7) (x 6))
 .skip (.exit 0)) (q (.block 1 (q (s [(4,ld (n2 (.iAddr 1) (x 5) (x 7)))]) (.cond (p (b .lss (x 4) (i 0)) (.cst (.bool true)) (b .geq (x 4) (ld (fa 1 (x
 2))))) (q (s [(3,.cst (.bool false))]) .ret) .skip))) (s [(7,b .add (x 7) (i 1))])))))) (q (s [(3,.cst (.bool true))]) .ret))
def cf151:CF:=⟨2,8,[(.var 3)],bd151,.plain⟩
def tr151:List Nat:=[0,1,2,4,6,7,8,9]
def bd152:Stm:=
 q (q (h 4 .box (c1 (x 0))) (s [(5,.cst (.slice none 0 0))])) (q (q (h 9 (.mkSl [.int .i64 0]) (c2 (b .add (n1 .len (x 1)) (i 1)) (b .add (n1 .len (x 1)) (i
 1)))) (s [(6,x 9)])) (q (.hv [] [] [] none (.st 1) (c2 (n2 (.iAddr 1) (x 6) (i 0)) (x 3))) (q (q (s [(12,i 0),(11,n1 .len (x 1)),(10,x 1)]) (.block 0
 (.loop (q (.cond (b .lss (x 12) (x 11)) .skip (.exit 0)) (q (.block 1 (q (s [(8,ld (n2 (.iAddr 1) (x 10) (x 12))),(7,x 12)]) (q (q (.hv [(16,ld (n2
 (.iAddr 1) (x 6) (x 7))),(15,n1 (.ld 4 true) (x 4)),(14,x 7),(13,x 6)] [] [] (some 17) (.call true) (c (.cst (.func (.func 155) #[] #[])) (c3 (n1 (.ld 4
 true) (x 4)) (x 8) (x 2)))) (q (h 18 .callC (c (.cst (.func (.func 154) #[] #[])) (c3 (x 15) (x 16) (x 17)))) (.hv [] [] [] none (.st 1) (c2 (n2 (.iAddr 1) (x
 13) (x 14)) (x 18))))) (.hv [] [] [] none (.st 1) (c2 (n2 (.iAddr 1) (x 6) (b .add (x 7) (i 1))) (x 8)))))) (s [(12,b .add (x 12) (i 1))])))))) (q (s [(5,x
 6)]) .ret))))
def cf152:CF:=⟨4,19,[(.var 5)],bd152,.plain⟩
def tr152:List Nat:=[0,1,2,3,4,8,9,10,11,15,19,20,21,26,27,28,32,36,37]
def bd153:Stm:=
 q (q (h 3 .box (c1 (x 0))) (s [(4,i 0)])) (q (.cond (b .eql (x 1) (i 0)) (q (s [(4,i 0)]) .ret) .skip) (q (s [(4,ld (n2 (.iAddr 1) (ld (fa 2 (x 3))) (b .rem
 (b .sub (b .add (b .sub (ld (n2 (.iAddr 1) (ld (fa 3 (x 3))) (x 1))) (ld (n2 (.iAddr 1) (ld (fa 3 (x 3))) (x 2)))) (ld (fa 1 (x 3)))) (i 1)) (b .sub (ld (fa 1
 (x 3))) (i 1)))))]) .ret))
def cf153:CF:=⟨3,5,[(.var 4)],bd153,.plain⟩
def tr153:List Nat:=[0,1,2,3,6]
def bd154:Stm:=
 q (q (h 3 .box (c1 (x 0))) (s [(4,i 0)])) (q (.cond (b .eql (ld (fa 0 (x 3))) (i 2)) (q (s [(4,b .xor (x 1) (x 2))]) .ret) .skip) (q (s [(4,b .rem (b .add (b
 .sub (x 1) (x 2)) (ld (fa 1 (x 3)))) (ld (fa 1 (x 3))))]) .ret))
def cf154:CF:=⟨3,5,[(.var 4)],bd154,.plain⟩
def tr154:List Nat:=[0,1,2,3,6]
def bd155:Stm:=
 q (q (h 3 .box (c1 (x 0))) (s [(4,i 0)])) (q (.cond (p (b .eql (x 1) (i 0)) (.cst (.bool true)) (b .eql (x 2) (i 0))) (q (s [(4,i 0)]) .ret) .skip) (q (s [(4,
 ld (n2 (.iAddr 1) (ld (fa 2 (x 3))) (b .rem (b .add (ld (n2 (.iAddr 1) (ld (fa 3 (x 3))) (x 1))) (ld (n2 (.iAddr 1) (ld (fa 3 (x 3))) (x 2)))) (b .sub (ld (fa
 1 (x 3))) (i 1)))))]) .ret))
def cf155:CF:=⟨3,5,[(.var 4)],bd155,.plain⟩
def tr155:List Nat:=[0,1,2,3,6]
def bd156:Stm:=
 q (s [(1,i 0)]) (q (s [(2,i (-1))]) (q (.block 0 (.loop (q (.cond (b .gtr (x 0) (i 0)) .skip (.exit 0)) (.block 1 (q (s [(0,b .quo (x 0) (i 2))]) (s [(2,b
 .add (x 2) (i 1))])))))) (q (s [(1,x 2)]) .ret)))
def cf156:CF:=⟨1,3,[(.var 1)],bd156,.plain⟩
def tr156:List Nat:=[0,2,3]
def bd157:Stm:=
 q (s [(2,.cst (.bool false))]) (q (q (.hv [(4,b .lss (x 0) (i 0))] [] [(b .lss (x 0) (i 0),false)] (some 5) (.call false) (c2 (.cst (.func (.func 156) #[]
 #[])) (x 0))) (.cond (p (x 4) (.cst (.bool true)) (b .neq (x 5) (x 1))) (q (s [(2,.cst (.bool false))]) .ret) .skip)) (q (q (s [(3,i 2)]) (.block 0 (.loop
 (q (q (cl 6 156 (c1 (x 3))) (.cond (b .leq (b .mul (i 2) (x 6)) (x 1)) .skip (.exit 0))) (q (.block 1 (q (cl 7 113 (c2 (x 0) (x 3))) (.cond (b .eql (x 7) (i
 0)) (q (s [(2,.cst (.bool false))]) .ret) .skip))) (s [(3,b .add (x 3) (i 1))])))))) (q (s [(2,.cst (.bool true))]) .ret)))
def cf157:CF:=⟨2,8,[(.var 2)],bd157,.plain⟩
def tr157:List Nat:=[0,1,4,5,8,10,15,23]
def bd158:Stm:=
 q (s [(1,.cst (.bool false))]) (q (q (s [(2,i 2)]) (.block 0 (.loop (q (.cond (b .leq (b .mul (x 2) (x 2)) (x 0)) .skip (.exit 0)) (q (.block 1 (.cond (b .eql
 (b .rem (x 0) (x 2)) (i 0)) (q (s [(1,.cst (.bool false))]) .ret) .skip)) (s [(2,b .add (x 2) (i 1))])))))) (q (s [(1,b .geq (x 0) (i 2))]) .ret))
def cf158:CF:=⟨1,3,[(.var 1)],bd158,.plain⟩
def tr158:List Nat:=[0,2,3]
def bd159:Stm:=
 q (q (h 1 .box (c1 (x 0))) (s [(2,i 0)])) (q (q (s [(3,i 1)]) (.block 0 (.loop (q (.cond (b .lss (x 3) (ld (fa 1 (x 1)))) .skip (.exit 0)) (q (.block 1 (q
 (.hv [(5,b .sub (ld (fa 1 (x 1))) (i 1))] [] [] (some 4) (.call true) (c3 (.cst (.func (.func 191) #[] #[])) (n1 (.ld 3 true) (x 1)) (x 3))) (.cond (b .eql
 (x 4) (x 5)) (q (s [(2,x 3)]) .ret) .skip))) (s [(3,b .add (x 3) (i 1))])))))) (q (s [(2,i 0)]) .ret))
def cf159:CF:=⟨1,6,[(.var 2)],bd159,.plain⟩
def tr159:List Nat:=[0,1,2,3,12,15]
def bd160:Stm:=
 q (q (h 3 .box (c1 (x 0))) (s [(4,i 0)])) (q (s [(5,i 1)]) (q (.block 0 (.loop (q (.cond (b .gtr (x 2) (i 0)) .skip (.exit 0)) (.block 1 (q (.cond (b .eql (b
 .rem (x 2) (i 2)) (i 1)) (q (cl 6 69 (c3 (n1 (.ld 3 true) (x 3)) (x 5) (x 1))) (s [(5,x 6)])) .skip) (q (q (cl 7 69 (c3 (n1 (.ld 3 true) (x 3)) (x 1) (x 1)))
 (s [(1,x 7)])) (s [(2,b .quo (x 2) (i 2))]))))))) (q (s [(4,x 5)]) .ret)))
def cf160:CF:=⟨3,8,[(.var 4)],bd160,.plain⟩
def tr160:List Nat:=[0,1,2,3,6,7,16,20]
def bd161:Stm:=
 q (q (h 1 .box (c1 (x 0))) (s [(2,i 0)])) (q (s [(3,i 1)]) (q (.block 0 (.loop (q (q (.hv [(5,b .sub (ld (fa 1 (x 1))) (i 1))] [] [] (some 4) (.call true)
 (c3 (.cst (.func (.func 192) #[] #[])) (n1 (.ld 3 true) (x 1)) (x 3))) (.cond (b .neq (x 4) (x 5)) .skip (.exit 0))) (.block 1 (s [(3,b .add (x 3) (i
 1))]))))) (q (s [(2,x 3)]) .ret)))
def cf161:CF:=⟨1,6,[(.var 2)],bd161,.plain⟩
def tr161:List Nat:=[0,1,2,3,6,9]
def bd162:Stm:=
 q (q (h 3 .box (c1 (x 0))) (s [(4,i 0)])) (q (.cond (b .eql (ld (fa 2 (x 3))) (i 0)) (q (s [(4,b .rem (b .mul (x 1) (x 2)) (ld (fa 1 (x 3))))]) .ret) .skip)
 (q (s [(5,i 0)]) (q (.block 0 (.loop (q (.cond (b .gtr (x 2) (i 0)) .skip (.exit 0)) (q (.block 1 (q (.cond (b .eql (b .and (x 2) (i 1)) (i 1)) (s [(5,b
 .xor (x 5) (x 1))]) .skip) (q (s [(1,b .shl (x 1) (.cst (.int .u64 1)))]) (.cond (b .geq (x 1) (ld (fa 1 (x 3)))) (s [(1,b .xor (x 1) (ld (fa 2 (x 3))))])
 .skip)))) (s [(2,b .shr (x 2) (.cst (.int .u64 1)))]))))) (q (s [(4,x 5)]) .ret))))
def cf162:CF:=⟨3,6,[(.var 4)],bd162,.plain⟩
def tr162:List Nat:=[0,1,2,3,6,7]
def bd163:Stm:=
 q (q (h 3 .box (c1 (x 0))) (q (h 4 .box (c1 (x 1))) (s [(5,.cst (.slice none 0 0))]))) (q (q (h 10 (.mkSl [.int .i64 0]) (c2 (ld (fa 3 (x 4))) (ld (fa 3 (x
 4))))) (s [(6,x 10)])) (q (q (s [(12,i 0),(11,n1 .len (x 6))]) (.block 0 (.loop (q (.cond (b .lss (x 12) (x 11)) .skip (.exit 0)) (q (.block 1 (q (s [(7,
 x 12)]) (q (q (cl 13 103 (c2 (n1 (.ld 4 true) (x 3)) (b .add (ld (fa 4 (x 4))) (x 7)))) (s [(8,x 13)])) (q (s [(16,i 0),(15,n1 .len (x 2)),(14,x 2)])
 (.block 2 (.loop (q (.cond (b .lss (x 16) (x 15)) .skip (.exit 2)) (q (.block 3 (q (s [(9,ld (n2 (.iAddr 1) (x 14) (x 16)))]) (q (.hv [(21,x 9),(19,n1
 (.ld 4 true) (x 3)),(18,x 7),(17,x 6)] [] [] (some 20) (.call true) (c (.cst (.func (.func 170) #[] #[])) (c3 (n1 (.ld 4 true) (x 3)) (ld (n2 (.iAddr 1)
 (x 6) (x 7))) (x 8)))) (q (h 22 .callC (c (.cst (.func (.func 171) #[] #[])) (c3 (x 19) (x 20) (x 21)))) (.hv [] [] [] none (.st 1) (c2 (n2 (.iAddr 1) (x 17)
 (x 18)) (x 22))))))) (s [(16,b .add (x 16) (i 1))]))))))))) (s [(12,b .add (x 12) (i 1))])))))) (q (s [(5,x 6)]) .ret)))
def cf163:CF:=⟨3,23,[(.var 5)],bd163,.plain⟩
def tr163:List Nat:=[0,1,2,3,4,6,7,8,9,11,14,16,17,25,26,27,28,32,33,34,41,42,43]
def bd164:Stm:=
 q (q (h 5 .box (c1 (x 0))) (s [(6,.cst (.slice none 0 0))])) (q (q (h 10 (.mkSl [.int .i64 0]) (c2 (n2 (.minmax true) (n1 .len (x 1)) (b .add (n1 .len (x 2))
 (x 3))) (n2 (.minmax true) (n1 .len (x 1)) (b .add (n1 .len (x 2)) (x 3))))) (s [(7,x 10)])) (q (.hv [] [] [] none (.cpy 1) (c2 (x 7) (x 1))) (q (q (s [(13,
 i 0),(12,n1 .len (x 2)),(11,x 2)]) (.block 0 (.loop (q (.cond (b .lss (x 13) (x 12)) .skip (.exit 0)) (q (.block 1 (q (s [(9,ld (n2 (.iAddr 1) (x 11) (x
 13))),(8,x 13)]) (q (.hv [(17,ld (n2 (.iAddr 1) (x 7) (b .add (x 8) (x 3)))),(16,n1 (.ld 4 true) (x 5)),(15,b .add (x 8) (x 3)),(14,x 7)] [] [] (some
 18) (.call true) (c (.cst (.func (.func 170) #[] #[])) (c3 (n1 (.ld 4 true) (x 5)) (x 4) (x 9)))) (q (h 19 .callC (c (.cst (.func (.func 193) #[] #[])) (c3 (x
 16) (x 17) (x 18)))) (.hv [] [] [] none (.st 1) (c2 (n2 (.iAddr 1) (x 14) (x 15)) (x 19))))))) (s [(13,b .add (x 13) (i 1))])))))) (q (s [(6,x 7)]) .ret))))
def cf164:CF:=⟨5,20,[(.var 6)],bd164,.plain⟩
def tr164:List Nat:=[0,1,2,3,4,5,10,11,12,13,21,25,26,27,32,35,36,42,46,47]
def bd165:Stm:=
 q (s [(2,i 0)]) (q (s [(2,b .sub (b .sub (n1 .len (ld (fa 9 (n1 .nilChk (x 0))))) (i 1)) (x 1))]) .ret)
def cf165:CF:=⟨2,3,[(.var 2)],bd165,.plain⟩
def tr165:List Nat:=[0,1,4]
def bd166:Stm:=
 q (q (h 4 .box (c1 (x 0))) (s [(5,.cst (.slice none 0 0))])) (q (q (h 10 (.mkSl [.int .i64 0]) (c2 (x 3) (x 3))) (s [(6,x 10)])) (q (q (s [(13,i 0),(12,n1
 .len (x 1)),(11,x 1)]) (.block 0 (.loop (q (.cond (b .lss (x 13) (x 12)) .skip (.exit 0)) (q (.block 1 (q (s [(8,ld (n2 (.iAddr 1) (x 11) (x 13))),(7,x
 13)]) (q (s [(9,i 0)]) (.block 2 (.loop (q (.cond (p (b .lss (x 9) (n1 .len (x 2))) (b .lss (b .add (x 7) (x 9)) (x 3)) (.cst (.bool false))) .skip (.exit
 2)) (q (.block 3 (q (.hv [(17,ld (n2 (.iAddr 1) (x 6) (b .add (x 7) (x 9)))),(16,n1 (.ld 4 true) (x 4)),(15,b .add (x 7) (x 9)),(14,x 6)] [] [] (some
 18) (.call true) (c (.cst (.func (.func 170) #[] #[])) (c3 (n1 (.ld 4 true) (x 4)) (x 8) (ld (n2 (.iAddr 1) (x 2) (x 9)))))) (q (h 19 .callC (c (.cst (.func
 (.func 171) #[] #[])) (c3 (x 16) (x 17) (x 18)))) (.hv [] [] [] none (.st 1) (c2 (n2 (.iAddr 1) (x 14) (x 15)) (x 19)))))) (s [(9,b .add (x 9) (i
 1))])))))))) (s [(13,b .add (x 13) (i 1))])))))) (q (s [(5,x 6)]) .ret)))
def cf166:CF:=⟨4,20,[(.var 5)],bd166,.plain⟩
def tr166:List Nat:=[0,1,2,3,4,8,9,10,11,12,14,15,16,17,35,38,39,45,52,53]
def bd167:Stm:=
 q (q (h 2 .box (c1 (x 0))) (s [(3,.cst (.slice none 0 0))])) (q (q (h 14 (.bSl [.int .i64 0] 1 [0]) (c1 (i 1))) (q (h 15 (.bSl [.int .i64 0] 1 [0]) (c1 (i 1)))
 (s [(5,x 15),(4,x 14)]))) (q (s [(8,i 1),(7,i 1),(6,i 0)]) (q (q (s [(17,i 0),(16,n1 .len (x 1))]) (.block 0 (.loop (q (.cond (b .lss (x 17) (x
 16)) .skip (.exit 0)) (q (.block 1 (q (s [(9,x 17)]) (q (s [(10,i 0)]) (q (q (s [(11,i 0)]) (.block 2 (.loop (q (.cond (p (b .leq (x 11) (x 6)) (b .lss (x
 11) (n1 .len (x 4))) (.cst (.bool false))) .skip (.exit 2)) (q (.block 3 (q (.hv [(19,x 10),(18,n1 (.ld 4 true) (x 2))] [] [] (some 20) (.call true) (c
 (.cst (.func (.func 170) #[] #[])) (c3 (n1 (.ld 4 true) (x 2)) (ld (n2 (.iAddr 1) (x 4) (x 11))) (ld (n2 (.iAddr 1) (x 1) (b .sub (x 9) (x 11))))))) (q (h 21
 .callC (c (.cst (.func (.func 171) #[] #[])) (c3 (x 18) (x 19) (x 20)))) (s [(10,x 21)])))) (s [(11,b .add (x 11) (i 1))])))))) (q (.cond (b .eql (x 10) (i
 0)) (q (s [(7,b .add (x 7) (i 1))]) (.exit 1)) .skip) (q (q (.hv [(25,x 7),(24,x 5),(23,x 4),(22,n1 (.ld 4 true) (x 2))] [] [] (some 26) (.call true)
 (c (.cst (.func (.func 172) #[] #[])) (c3 (n1 (.ld 4 true) (x 2)) (x 10) (x 8)))) (q (h 27 .callC (c (.cst (.func (.func 164) #[] #[])) (c (x 22) (c (x 23)
 (c3 (x 24) (x 25) (x 26)))))) (s [(12,x 27)]))) (q (.cond (b .leq (b .mul (i 2) (x 6)) (x 9)) (s [(7,i 1),(8,x 10),(6,b .sub (b .add (x 9) (i 1)) (x
 6)),(5,x 4)]) (s [(7,b .add (x 7) (i 1))])) (s [(4,x 12)])))))))) (s [(17,b .add (x 17) (i 1))])))))) (q (s [(13,n1 .len (x 4))]) (q (.block 4 (.loop (q
 (.cond (b .eql (ld (n2 (.iAddr 1) (x 4) (b .sub (x 13) (i 1)))) (i 0)) .skip (.exit 4)) (.block 5 (s [(13,b .sub (x 13) (i 1))]))))) (q (s [(3,n2 (.sl 1
 false true false) (x 4) (x 13))]) .ret))))))
def cf167:CF:=⟨2,28,[(.var 3)],bd167,.plain⟩
def tr167:List Nat:=[0,1,2,4,5,6,7,8,9,10,11,12,13,14,15,16,18,19,33,34,46,47,52,53,54,55,59,60]
def bd168:Stm:=
 q (q (h 3 .box (c1 (x 0))) (s [(4,i 0)])) (q (s [(5,i 0)]) (q (q (s [(6,b .sub (n1 .len (x 1)) (i 1))]) (.block 0 (.loop (q (.cond (b .geq (x 6) (i 0)) .skip
 (.exit 0)) (q (.block 1 (q (.hv [(9,ld (n2 (.iAddr 1) (x 1) (x 6))),(7,n1 (.ld 4 true) (x 3))] [] [] (some 8) (.call true) (c (.cst (.func (.func 170) #[]
 #[])) (c3 (n1 (.ld 4 true) (x 3)) (x 5) (x 2)))) (q (h 10 .callC (c (.cst (.func (.func 171) #[] #[])) (c3 (x 7) (x 8) (x 9)))) (s [(5,x 10)])))) (s [(6,b
 .sub (x 6) (i 1))])))))) (q (s [(4,x 5)]) .ret)))
def cf168:CF:=⟨3,11,[(.var 4)],bd168,.plain⟩
def tr168:List Nat:=[0,1,2,3,6,7,8,16,20,24,25]
def bd169:Stm:=
 q (q (h 2 .box (c1 (x 0))) (s [(3,.cst (.slice none 0 0))])) (q (s [(4,.cst (.slice none 0 0))]) (q (q (s [(5,i 1)]) (.block 0 (.loop (q (.cond (b .lss (x 5)
 (n1 .len (x 1))) .skip (.exit 0)) (q (.block 1 (q (.hv [(6,x 4)] [] [] (some 7) .callC (c (.cst (.func (.func 170) #[] #[])) (c3 (n1 (.ld 4 true) (x 2)) (b
 .rem (x 5) (ld (fa 0 (x 2)))) (ld (n2 (.iAddr 1) (x 1) (x 5)))))) (q (h 8 (.bSl [.int .i64 0] 1 [0]) (c1 (x 7))) (q (h 9 (.app 1 [.int .i64 0]) (c2 (x 6) (x
 8))) (s [(4,x 9)]))))) (s [(5,b .add (x 5) (i 1))])))))) (q (s [(3,x 4)]) .ret)))
def cf169:CF:=⟨2,10,[(.var 3)],bd169,.plain⟩
def tr169:List Nat:=[0,1,2,4,5,6,13,23,24,25]
def bd170:Stm:=
 q (q (h 3 .box (c1 (x 0))) (s [(4,i 0)])) (q (.cond (p (b .eql (x 1) (i 0)) (.cst (.bool true)) (b .eql (x 2) (i 0))) (q (s [(4,i 0)]) .ret) .skip) (q (s [(4,
 ld (n2 (.iAddr 1) (ld (fa 2 (x 3))) (b .rem (b .add (ld (n2 (.iAddr 1) (ld (fa 3 (x 3))) (x 1))) (ld (n2 (.iAddr 1) (ld (fa 3 (x 3))) (x 2)))) (b .sub (ld (fa
 1 (x 3))) (i 1)))))]) .ret))
def cf170:CF:=⟨3,5,[(.var 4)],bd170,.plain⟩
def tr170:List Nat:=[0,1,2,3,6]
def bd171:Stm:=
 q (q (h 3 .box (c1 (x 0))) (s [(4,i 0)])) (q (.cond (b .eql (ld (fa 0 (x 3))) (i 2)) (q (s [(4,b .xor (x 1) (x 2))]) .ret) .skip) (q (s [(4,b .rem (b .add (x
 1) (x 2)) (ld (fa 1 (x 3))))]) .ret))
def cf171:CF:=⟨3,5,[(.var 4)],bd171,.plain⟩
def tr171:List Nat:=[0,1,2,3,6]
def bd172:Stm:=
 q (q (h 3 .box (c1 (x 0))) (s [(4,i 0)])) (q (.cond (b .eql (x 1) (i 0)) (q (s [(4,i 0)]) .ret) .skip) (q (s [(4,ld (n2 (.iAddr 1) (ld (fa 2 (x 3))) (b .rem
 (b .sub (b .add (b .sub (ld (n2 (.iAddr 1) (ld (fa 3 (x 3))) (x 1))) (ld (n2 (.iAddr 1) (ld (fa 3 (x 3))) (x 2)))) (ld (fa 1 (x 3)))) (i 1)) (b .sub (ld (fa 1
 (x 3))) (i 1)))))]) .ret))
def cf172:CF:=⟨3,5,[(.var 4)],bd172,.plain⟩
def tr172:List Nat:=[0,1,2,3,6]
def tr176:List Nat:=[0,1,2,6,12,20,28,34,37]
def tr177:List Nat:=[0,1,3,4,6,17]
def tr178:List Nat:=[0,1,4,5,6,7,8,9,10,11,26]
def tr179:List Nat:=[0,1,4,5,6,7,8,9,15,25]
def tr180:List Nat:=[0,1,2,4,6,7,8,9,11,12]
def tr182:List Nat:=[0,2,3,4,5]
def tr183:List Nat:=[0,1,2,6,7,8]
def tr184:List Nat:=[0,2,3,4,24,29]
def tr185:List Nat:=[0,2]
def bd189:Stm:=
 q (q (s [(1,i 0)]) (.cond (.cst (.bool false)) (q (q (cl 2 203 (c1 (n1 (.cvt .u32) (x 0)))) (s [(1,x 2)])) .ret) .skip)) (q (q (cl 3 204 (c1 (x 0))) (s [(1,x
 3)])) .ret)
def cf189:CF:=⟨1,4,[(.var 1)],bd189,.plain⟩
def tr189:List Nat:=[0,2,5,7]
def bd190:Stm:=
 q (s [(2,i 0)]) (q (.block 0 (.loop (q (q (cl 3 149 (c1 (x 0))) (q (cl 4 149 (c1 (x 1))) (.cond (b .geq (x 3) (x 4)) .skip (.exit 0)))) (.block 1 (q (.hv [(6,
 x 1),(5,x 0)] [] [] (some 7) (.call false) (c2 (.cst (.func (.func 149) #[] #[])) (x 0))) (q (cl 8 149 (c1 (x 1))) (s [(0,b .xor (x 5) (b .shl (x 6) (b
 .sub (x 7) (x 8))))]))))))) (q (s [(2,x 0)]) .ret))
def cf190:CF:=⟨2,9,[(.var 2)],bd190,.plain⟩
def tr190:List Nat:=[0,1,4,6,8,10,11,13,15]
def bd191:Stm:=
 q (q (h 2 .box (c1 (x 0))) (s [(3,i 0)])) (q (s [(5,x 1),(4,i 1)]) (q (.block 0 (.loop (q (.cond (p (b .neq (x 5) (i 1)) (b .lss (x 4) (ld (fa 1 (x 2))))
 (.cst (.bool false))) .skip (.exit 0)) (.block 1 (q (q (cl 6 69 (c3 (n1 (.ld 3 true) (x 2)) (x 5) (x 1))) (s [(5,x 6)])) (s [(4,b .add (x 4) (i 1))]))))))
 (q (s [(3,x 4)]) .ret)))
def cf191:CF:=⟨2,7,[(.var 3)],bd191,.plain⟩
def tr191:List Nat:=[0,1,2,4,5,6,19]
def bd192:Stm:=
 q (q (h 2 .box (c1 (x 0))) (s [(3,i 0)])) (q (s [(4,i 1)]) (q (q (s [(5,x 1)]) (.block 0 (.loop (q (.cond (b .neq (x 5) (i 1)) .skip (.exit 0)) (q (.block 1
 (s [(4,b .add (x 4) (i 1))])) (q (cl 6 162 (c3 (n1 (.ld 3 true) (x 2)) (x 5) (x 1))) (s [(5,x 6)]))))))) (q (s [(3,x 4)]) .ret)))
def cf192:CF:=⟨2,7,[(.var 3)],bd192,.plain⟩
def tr192:List Nat:=[0,1,2,4,5,6,13]
def bd193:Stm:=
 q (q (h 3 .box (c1 (x 0))) (s [(4,i 0)])) (q (.cond (b .eql (ld (fa 0 (x 3))) (i 2)) (q (s [(4,b .xor (x 1) (x 2))]) .ret) .skip) (q (s [(4,b .rem (b .add (b
 .sub (x 1) (x 2)) (ld (fa 1 (x 3)))) (ld (fa 1 (x 3))))]) .ret))
def cf193:CF:=⟨3,5,[(.var 4)],bd193,.plain⟩
def tr193:List Nat:=[0,1,2,3,6]
def tr194:List Nat:=[0,1,4,5,6,7,8,21,38,45,46,47,54,55,59,63,65,69,80,87,88,89,92,93,94]
def tr195:List Nat:=[0,1,2,3,4,10,11,12,14,16,18,19,23,29,33,34,35,38,43,44,45,48,53,54,55,58,69,80,81,82]
def tr196:List Nat:=[0,1,4,5,6,7,11,21,24,34,42,51,52,53]
def tr197:List Nat:=[0,1,4,5,6,7,8,9,12,21,22,23,57,61,62,63]
def tr198:List Nat:=[0,1,2]
def tr199:List Nat:=[0,1,4,5,6,8,10]
def tr200:List Nat:=[0,1,4,5,6]
def tr201:List Nat:=[0,1,4,5,6,7,8,9,10,11,12,13]
def tr203:List Nat:=[0,2]
def bd204:Stm:=
 q (s [(1,i 0)]) (q (.cond (b .geq (x 0) (.cst (.int .u64 4294967296))) (q (s [(0,b .shr (x 0) (.cst (.int .u64 32)))]) (s [(1,i 32)])) .skip) (q (.cond (b
 .geq (x 0) (.cst (.int .u64 65536))) (q (s [(0,b .shr (x 0) (.cst (.int .u64 16)))]) (s [(1,b .add (x 1) (i 16))])) .skip) (q (.cond (b .geq (x 0) (.cst
 (.int .u64 256))) (q (s [(0,b .shr (x 0) (.cst (.int .u64 8)))]) (s [(1,b .add (x 1) (i 8))])) .skip) (q (s [(1,b .add (x 1) (n1 (.cvt .i64) (n2 .idxS
 (.cst (.string lit0)) (n1 (.cvt .u8) (x 0)))))]) .ret))))
def cf204:CF:=⟨1,2,[(.var 1)],bd204,.plain⟩
def tr204:List Nat:=[0,2]
def tr205:List Nat:=[0,2]
def tr206:List Nat:=[0,1,4,5,6,7,29,42,45,46,47,48]
def tr207:List Nat:=[0,1,2,4,6,7,8,9,10,11,15,18,28,29,51,65,72,73,82,87,88]
def tr208:List Nat:=[0,1,2,3,4,10,11]
def tr209:List Nat:=[0,2]
def tr210:List Nat:=[0,1,2,3,8]
def tr211:List Nat:=[0,2]
def tr212:List Nat:=[0,1,4,5,6,7,8]
end
theorem is3:compFunc Tryz.prog tr3 3=some cf3:=by kernel_rfl
theorem is12:compFunc Tryz.prog tr12 12=some cf12:=by kernel_rfl
theorem is13:compFunc Tryz.prog tr13 13=some cf13:=by kernel_rfl
theorem is14:compFunc Tryz.prog tr14 14=some cf14:=by kernel_rfl
theorem is15:compFunc Tryz.prog tr15 15=some cf15:=by kernel_rfl
theorem is16:compFunc Tryz.prog tr16 16=some cf16:=by kernel_rfl
theorem is18:compFunc Tryz.prog tr18 18=some cf18:=by kernel_rfl
theorem is21:compFunc Tryz.prog tr21 21=some cf21:=by kernel_rfl
theorem pl26:(compFunc Tryz.prog tr26 26).all plainCF=true:=by kernel_rfl
theorem is27:compFunc Tryz.prog tr27 27=some cf27:=by kernel_rfl
theorem is28:compFunc Tryz.prog tr28 28=some cf28:=by kernel_rfl
theorem is29:compFunc Tryz.prog tr29 29=some cf29:=by kernel_rfl
theorem is30:compFunc Tryz.prog tr30 30=some cf30:=by kernel_rfl
theorem is31:compFunc Tryz.prog tr31 31=some cf31:=by kernel_rfl
theorem is32:compFunc Tryz.prog tr32 32=some cf32:=by kernel_rfl
theorem is33:compFunc Tryz.prog tr33 33=some cf33:=by kernel_rfl
theorem is34:compFunc Tryz.prog tr34 34=some cf34:=by kernel_rfl
theorem is35:compFunc Tryz.prog tr35 35=some cf35:=by kernel_rfl
theorem is36:compFunc Tryz.prog tr36 36=some cf36:=by kernel_rfl
theorem pl38:(compFunc Tryz.prog tr38 38).all plainCF=true:=by kernel_rfl
theorem pl39:(compFunc Tryz.prog tr39 39).all plainCF=true:=by kernel_rfl
theorem pl40:(compFunc Tryz.prog tr40 40).all plainCF=true:=by kernel_rfl
theorem pl41:(compFunc Tryz.prog tr41 41).all plainCF=true:=by kernel_rfl
theorem pl45:(compFunc Tryz.prog tr45 45).all plainCF=true:=by kernel_rfl
theorem pl46:(compFunc Tryz.prog tr46 46).all plainCF=true:=by kernel_rfl
theorem pl53:(compFunc Tryz.prog tr53 53).all plainCF=true:=by kernel_rfl
theorem is54:compFunc Tryz.prog tr54 54=some cf54:=by kernel_rfl
theorem pl55:(compFunc Tryz.prog tr55 55).all plainCF=true:=by kernel_rfl
theorem is56:compFunc Tryz.prog tr56 56=some cf56:=by kernel_rfl
theorem is57:compFunc Tryz.prog tr57 57=some cf57:=by kernel_rfl
theorem is58:compFunc Tryz.prog tr58 58=some cf58:=by kernel_rfl
theorem is59:compFunc Tryz.prog tr59 59=some cf59:=by kernel_rfl
theorem is60:compFunc Tryz.prog tr60 60=some cf60:=by kernel_rfl
theorem is61:compFunc Tryz.prog tr61 61=some cf61:=by kernel_rfl
theorem is62:compFunc Tryz.prog tr62 62=some cf62:=by kernel_rfl
theorem is63:compFunc Tryz.prog tr63 63=some cf63:=by kernel_rfl
theorem is64:compFunc Tryz.prog tr64 64=some cf64:=by kernel_rfl
theorem is65:compFunc Tryz.prog tr65 65=some cf65:=by kernel_rfl
theorem is66:compFunc Tryz.prog tr66 66=some cf66:=by kernel_rfl
theorem is67:compFunc Tryz.prog tr67 67=some cf67:=by kernel_rfl
theorem is68:compFunc Tryz.prog tr68 68=some cf68:=by kernel_rfl
theorem is69:compFunc Tryz.prog tr69 69=some cf69:=by kernel_rfl
theorem is70:compFunc Tryz.prog tr70 70=some cf70:=by kernel_rfl
theorem is71:compFunc Tryz.prog tr71 71=some cf71:=by kernel_rfl
theorem is72:compFunc Tryz.prog tr72 72=some cf72:=by kernel_rfl
theorem pl75:(compFunc Tryz.prog tr75 75).all plainCF=true:=by kernel_rfl
theorem pl76:(compFunc Tryz.prog tr76 76).all plainCF=true:=by kernel_rfl
theorem pl77:(compFunc Tryz.prog tr77 77).all plainCF=true:=by kernel_rfl
theorem pl78:(compFunc Tryz.prog tr78 78).all plainCF=true:=by kernel_rfl
theorem pl79:(compFunc Tryz.prog tr79 79).all plainCF=true:=by kernel_rfl
theorem pl80:(compFunc Tryz.prog tr80 80).all plainCF=true:=by kernel_rfl
theorem pl86:(compFunc Tryz.prog tr86 86).all plainCF=true:=by kernel_rfl
theorem pl87:(compFunc Tryz.prog tr87 87).all plainCF=true:=by kernel_rfl
theorem pl88:(compFunc Tryz.prog tr88 88).all plainCF=true:=by kernel_rfl
theorem pl89:(compFunc Tryz.prog tr89 89).all plainCF=true:=by kernel_rfl
theorem is99:compFunc Tryz.prog tr99 99=some cf99:=by kernel_rfl
theorem is100:compFunc Tryz.prog tr100 100=some cf100:=by kernel_rfl
theorem is101:compFunc Tryz.prog tr101 101=some cf101:=by kernel_rfl
theorem is102:compFunc Tryz.prog tr102 102=some cf102:=by kernel_rfl
theorem is103:compFunc Tryz.prog tr103 103=some cf103:=by kernel_rfl
theorem is104:compFunc Tryz.prog tr104 104=some cf104:=by kernel_rfl
theorem is105:compFunc Tryz.prog tr105 105=some cf105:=by kernel_rfl
theorem is106:compFunc Tryz.prog tr106 106=some cf106:=by kernel_rfl
theorem is107:compFunc Tryz.prog tr107 107=some cf107:=by kernel_rfl
theorem is108:compFunc Tryz.prog tr108 108=some cf108:=by kernel_rfl
theorem is109:compFunc Tryz.prog tr109 109=some cf109:=by kernel_rfl
theorem is110:compFunc Tryz.prog tr110 110=some cf110:=by kernel_rfl
theorem is111:compFunc Tryz.prog tr111 111=some cf111:=by kernel_rfl
theorem is112:compFunc Tryz.prog tr112 112=some cf112:=by kernel_rfl
theorem is113:compFunc Tryz.prog tr113 113=some cf113:=by kernel_rfl
theorem is114:compFunc Tryz.prog tr114 114=some cf114:=by kernel_rfl
theorem is115:compFunc Tryz.prog tr115 115=some cf115:=by kernel_rfl
theorem is116:compFunc Tryz.prog tr116 116=some cf116:=by kernel_rfl
theorem is117:compFunc Tryz.prog tr117 117=some cf117:=by kernel_rfl
theorem is118:compFunc Tryz.prog tr118 118=some cf118:=by kernel_rfl
theorem is119:compFunc Tryz.prog tr119 119=some cf119:=by kernel_rfl
theorem is120:compFunc Tryz.prog tr120 120=some cf120:=by kernel_rfl
theorem is121:compFunc Tryz.prog tr121 121=some cf121:=by kernel_rfl
theorem pl128:(compFunc Tryz.prog tr128 128).all plainCF=true:=by kernel_rfl
theorem pl129:(compFunc Tryz.prog tr129 129).all plainCF=true:=by kernel_rfl
theorem pl130:(compFunc Tryz.prog tr130 130).all plainCF=true:=by kernel_rfl
theorem pl131:(compFunc Tryz.prog tr131 131).all plainCF=true:=by kernel_rfl
theorem pl132:(compFunc Tryz.prog tr132 132).all plainCF=true:=by kernel_rfl
theorem pl133:(compFunc Tryz.prog tr133 133).all plainCF=true:=by kernel_rfl
theorem pl134:(compFunc Tryz.prog tr134 134).all plainCF=true:=by kernel_rfl
theorem pl135:(compFunc Tryz.prog tr135 135).all plainCF=true:=by kernel_rfl
theorem pl138:(compFunc Tryz.prog tr138 138).all plainCF=true:=by kernel_rfl
theorem pl139:(compFunc Tryz.prog tr139 139).all plainCF=true:=by kernel_rfl
theorem pl140:(compFunc Tryz.prog tr140 140).all plainCF=true:=by kernel_rfl
theorem pl141:(compFunc Tryz.prog tr141 141).all plainCF=true:=by kernel_rfl
theorem pl142:(compFunc Tryz.prog tr142 142).all plainCF=true:=by kernel_rfl
theorem is148:compFunc Tryz.prog tr148 148=some cf148:=by kernel_rfl
theorem is149:compFunc Tryz.prog tr149 149=some cf149:=by kernel_rfl
theorem is150:compFunc Tryz.prog tr150 150=some cf150:=by kernel_rfl
theorem is151:compFunc Tryz.prog tr151 151=some cf151:=by kernel_rfl
theorem is152:compFunc Tryz.prog tr152 152=some cf152:=by kernel_rfl
theorem is153:compFunc Tryz.prog tr153 153=some cf153:=by kernel_rfl
theorem is154:compFunc Tryz.prog tr154 154=some cf154:=by kernel_rfl
theorem is155:compFunc Tryz.prog tr155 155=some cf155:=by kernel_rfl
theorem is156:compFunc Tryz.prog tr156 156=some cf156:=by kernel_rfl
theorem is157:compFunc Tryz.prog tr157 157=some cf157:=by kernel_rfl
theorem is158:compFunc Tryz.prog tr158 158=some cf158:=by kernel_rfl
theorem is159:compFunc Tryz.prog tr159 159=some cf159:=by kernel_rfl
theorem is160:compFunc Tryz.prog tr160 160=some cf160:=by kernel_rfl
theorem is161:compFunc Tryz.prog tr161 161=some cf161:=by kernel_rfl
theorem is162:compFunc Tryz.prog tr162 162=some cf162:=by kernel_rfl
theorem is163:compFunc Tryz.prog tr163 163=some cf163:=by kernel_rfl
theorem is164:compFunc Tryz.prog tr164 164=some cf164:=by kernel_rfl
theorem is165:compFunc Tryz.prog tr165 165=some cf165:=by kernel_rfl
theorem is166:compFunc Tryz.prog tr166 166=some cf166:=by kernel_rfl
theorem is167:compFunc Tryz.prog tr167 167=some cf167:=by kernel_rfl
theorem is168:compFunc Tryz.prog tr168 168=some cf168:=by kernel_rfl
theorem is169:compFunc Tryz.prog tr169 169=some cf169:=by kernel_rfl
theorem is170:compFunc Tryz.prog tr170 170=some cf170:=by kernel_rfl
theorem is171:compFunc Tryz.prog tr171 171=some cf171:=by kernel_rfl
theorem is172:compFunc Tryz.prog tr172 172=some cf172:=by kernel_rfl
theorem pl176:(compFunc Tryz.prog tr176 176).all plainCF=true:=by kernel_rfl
theorem pl177:(compFunc Tryz.prog tr177 177).all plainCF=true:=by kernel_rfl
theorem pl178:(compFunc Tryz.prog tr178 178).all plainCF=true:=by kernel_rfl
theorem pl179:(compFunc Tryz.prog tr179 179).all plainCF=true:=by kernel_rfl
theorem pl180:(compFunc Tryz.prog tr180 180).all plainCF=true:=by kernel_rfl
theorem pl182:(compFunc Tryz.prog tr182 182).all plainCF=true:=by kernel_rfl
theorem pl183:(compFunc Tryz.prog tr183 183).all plainCF=true:=by kernel_rfl
theorem pl184:(compFunc Tryz.prog tr184 184).all plainCF=true:=by kernel_rfl
theorem pl185:(compFunc Tryz.prog tr185 185).all plainCF=true:=by kernel_rfl
theorem is189:compFunc Tryz.prog tr189 189=some cf189:=by kernel_rfl
theorem is190:compFunc Tryz.prog tr190 190=some cf190:=by kernel_rfl
theorem is191:compFunc Tryz.prog tr191 191=some cf191:=by kernel_rfl
theorem is192:compFunc Tryz.prog tr192 192=some cf192:=by kernel_rfl
theorem is193:compFunc Tryz.prog tr193 193=some cf193:=by kernel_rfl
theorem pl194:(compFunc Tryz.prog tr194 194).all plainCF=true:=by kernel_rfl
theorem pl195:(compFunc Tryz.prog tr195 195).all plainCF=true:=by kernel_rfl
theorem pl196:(compFunc Tryz.prog tr196 196).all plainCF=true:=by kernel_rfl
theorem pl197:(compFunc Tryz.prog tr197 197).all plainCF=true:=by kernel_rfl
theorem pl198:(compFunc Tryz.prog tr198 198).all plainCF=true:=by kernel_rfl
theorem pl199:(compFunc Tryz.prog tr199 199).all plainCF=true:=by kernel_rfl
theorem pl200:(compFunc Tryz.prog tr200 200).all plainCF=true:=by kernel_rfl
theorem pl201:(compFunc Tryz.prog tr201 201).all plainCF=true:=by kernel_rfl
theorem pl203:(compFunc Tryz.prog tr203 203).all plainCF=true:=by kernel_rfl
theorem is204:compFunc Tryz.prog tr204 204=some cf204:=by kernel_rfl
theorem pl205:(compFunc Tryz.prog tr205 205).all plainCF=true:=by kernel_rfl
theorem pl206:(compFunc Tryz.prog tr206 206).all plainCF=true:=by kernel_rfl
theorem pl207:(compFunc Tryz.prog tr207 207).all plainCF=true:=by kernel_rfl
theorem pl208:(compFunc Tryz.prog tr208 208).all plainCF=true:=by kernel_rfl
theorem pl209:(compFunc Tryz.prog tr209 209).all plainCF=true:=by kernel_rfl
theorem pl210:(compFunc Tryz.prog tr210 210).all plainCF=true:=by kernel_rfl
theorem pl211:(compFunc Tryz.prog tr211 211).all plainCF=true:=by kernel_rfl
theorem pl212:(compFunc Tryz.prog tr212 212).all plainCF=true:=by kernel_rfl
noncomputable def cp0x:FuncId→Option CF
 | 3=>some cf3
 | 12=>some cf12
 | 13=>some cf13
 | 14=>some cf14
 | 15=>some cf15
 | _=>none
theorem compiled0x(f:FuncId)(cf:CF)(h:cp0x f=some cf):∃t,compFunc Tryz.prog t f=some cf:=by
 unfold cp0x at h
 split at h
 ·cases h;exact⟨_,is3⟩
 ·cases h;exact⟨_,is12⟩
 ·cases h;exact⟨_,is13⟩
 ·cases h;exact⟨_,is14⟩
 ·cases h;exact⟨_,is15⟩
 ·simp at h
noncomputable def cp1x:FuncId→Option CF
 | 16=>some cf16
 | 18=>some cf18
 | 21=>some cf21
 | 26=>compFunc Tryz.prog tr26 26
 | 27=>some cf27
 | 28=>some cf28
 | 29=>some cf29
 | 30=>some cf30
 | 31=>some cf31
 | _=>none
theorem compiled1x(f:FuncId)(cf:CF)(h:cp1x f=some cf):∃t,compFunc Tryz.prog t f=some cf:=by
 unfold cp1x at h
 split at h
 ·cases h;exact⟨_,is16⟩
 ·cases h;exact⟨_,is18⟩
 ·cases h;exact⟨_,is21⟩
 ·exact⟨_,h⟩
 ·cases h;exact⟨_,is27⟩
 ·cases h;exact⟨_,is28⟩
 ·cases h;exact⟨_,is29⟩
 ·cases h;exact⟨_,is30⟩
 ·cases h;exact⟨_,is31⟩
 ·simp at h
noncomputable def cp2x:FuncId→Option CF
 | 32=>some cf32
 | 33=>some cf33
 | 34=>some cf34
 | 35=>some cf35
 | 36=>some cf36
 | 38=>compFunc Tryz.prog tr38 38
 | 39=>compFunc Tryz.prog tr39 39
 | 40=>compFunc Tryz.prog tr40 40
 | 41=>compFunc Tryz.prog tr41 41
 | 45=>compFunc Tryz.prog tr45 45
 | 46=>compFunc Tryz.prog tr46 46
 | _=>none
theorem compiled2x(f:FuncId)(cf:CF)(h:cp2x f=some cf):∃t,compFunc Tryz.prog t f=some cf:=by
 unfold cp2x at h
 split at h
 ·cases h;exact⟨_,is32⟩
 ·cases h;exact⟨_,is33⟩
 ·cases h;exact⟨_,is34⟩
 ·cases h;exact⟨_,is35⟩
 ·cases h;exact⟨_,is36⟩
 ·exact⟨_,h⟩
 ·exact⟨_,h⟩
 ·exact⟨_,h⟩
 ·exact⟨_,h⟩
 ·exact⟨_,h⟩
 ·exact⟨_,h⟩
 ·simp at h
noncomputable def cp3x:FuncId→Option CF
 | 53=>compFunc Tryz.prog tr53 53
 | 54=>some cf54
 | 55=>compFunc Tryz.prog tr55 55
 | 56=>some cf56
 | 57=>some cf57
 | 58=>some cf58
 | 59=>some cf59
 | 60=>some cf60
 | 61=>some cf61
 | 62=>some cf62
 | 63=>some cf63
 | _=>none
theorem compiled3x(f:FuncId)(cf:CF)(h:cp3x f=some cf):∃t,compFunc Tryz.prog t f=some cf:=by
 unfold cp3x at h
 split at h
 ·exact⟨_,h⟩
 ·cases h;exact⟨_,is54⟩
 ·exact⟨_,h⟩
 ·cases h;exact⟨_,is56⟩
 ·cases h;exact⟨_,is57⟩
 ·cases h;exact⟨_,is58⟩
 ·cases h;exact⟨_,is59⟩
 ·cases h;exact⟨_,is60⟩
 ·cases h;exact⟨_,is61⟩
 ·cases h;exact⟨_,is62⟩
 ·cases h;exact⟨_,is63⟩
 ·simp at h
noncomputable def cp4x:FuncId→Option CF
 | 64=>some cf64
 | 65=>some cf65
 | 66=>some cf66
 | 67=>some cf67
 | 68=>some cf68
 | 69=>some cf69
 | 70=>some cf70
 | 71=>some cf71
 | 72=>some cf72
 | 75=>compFunc Tryz.prog tr75 75
 | 76=>compFunc Tryz.prog tr76 76
 | 77=>compFunc Tryz.prog tr77 77
 | 78=>compFunc Tryz.prog tr78 78
 | 79=>compFunc Tryz.prog tr79 79
 | _=>none
theorem compiled4x(f:FuncId)(cf:CF)(h:cp4x f=some cf):∃t,compFunc Tryz.prog t f=some cf:=by
 unfold cp4x at h
 split at h
 ·cases h;exact⟨_,is64⟩
 ·cases h;exact⟨_,is65⟩
 ·cases h;exact⟨_,is66⟩
 ·cases h;exact⟨_,is67⟩
 ·cases h;exact⟨_,is68⟩
 ·cases h;exact⟨_,is69⟩
 ·cases h;exact⟨_,is70⟩
 ·cases h;exact⟨_,is71⟩
 ·cases h;exact⟨_,is72⟩
 ·exact⟨_,h⟩
 ·exact⟨_,h⟩
 ·exact⟨_,h⟩
 ·exact⟨_,h⟩
 ·exact⟨_,h⟩
 ·simp at h
noncomputable def cp5x:FuncId→Option CF
 | 80=>compFunc Tryz.prog tr80 80
 | 86=>compFunc Tryz.prog tr86 86
 | 87=>compFunc Tryz.prog tr87 87
 | 88=>compFunc Tryz.prog tr88 88
 | 89=>compFunc Tryz.prog tr89 89
 | _=>none
theorem compiled5x(f:FuncId)(cf:CF)(h:cp5x f=some cf):∃t,compFunc Tryz.prog t f=some cf:=by
 unfold cp5x at h
 split at h
 ·exact⟨_,h⟩
 ·exact⟨_,h⟩
 ·exact⟨_,h⟩
 ·exact⟨_,h⟩
 ·exact⟨_,h⟩
 ·simp at h
noncomputable def cp6x:FuncId→Option CF
 | 99=>some cf99
 | 100=>some cf100
 | 101=>some cf101
 | 102=>some cf102
 | 103=>some cf103
 | 104=>some cf104
 | 105=>some cf105
 | 106=>some cf106
 | 107=>some cf107
 | 108=>some cf108
 | 109=>some cf109
 | 110=>some cf110
 | 111=>some cf111
 | _=>none
theorem compiled6x(f:FuncId)(cf:CF)(h:cp6x f=some cf):∃t,compFunc Tryz.prog t f=some cf:=by
 unfold cp6x at h
 split at h
 ·cases h;exact⟨_,is99⟩
 ·cases h;exact⟨_,is100⟩
 ·cases h;exact⟨_,is101⟩
 ·cases h;exact⟨_,is102⟩
 ·cases h;exact⟨_,is103⟩
 ·cases h;exact⟨_,is104⟩
 ·cases h;exact⟨_,is105⟩
 ·cases h;exact⟨_,is106⟩
 ·cases h;exact⟨_,is107⟩
 ·cases h;exact⟨_,is108⟩
 ·cases h;exact⟨_,is109⟩
 ·cases h;exact⟨_,is110⟩
 ·cases h;exact⟨_,is111⟩
 ·simp at h
noncomputable def cp7x:FuncId→Option CF
 | 112=>some cf112
 | 113=>some cf113
 | 114=>some cf114
 | 115=>some cf115
 | 116=>some cf116
 | 117=>some cf117
 | 118=>some cf118
 | 119=>some cf119
 | 120=>some cf120
 | 121=>some cf121
 | _=>none
theorem compiled7x(f:FuncId)(cf:CF)(h:cp7x f=some cf):∃t,compFunc Tryz.prog t f=some cf:=by
 unfold cp7x at h
 split at h
 ·cases h;exact⟨_,is112⟩
 ·cases h;exact⟨_,is113⟩
 ·cases h;exact⟨_,is114⟩
 ·cases h;exact⟨_,is115⟩
 ·cases h;exact⟨_,is116⟩
 ·cases h;exact⟨_,is117⟩
 ·cases h;exact⟨_,is118⟩
 ·cases h;exact⟨_,is119⟩
 ·cases h;exact⟨_,is120⟩
 ·cases h;exact⟨_,is121⟩
 ·simp at h
noncomputable def cp8x:FuncId→Option CF
 | 128=>compFunc Tryz.prog tr128 128
 | 129=>compFunc Tryz.prog tr129 129
 | 130=>compFunc Tryz.prog tr130 130
 | 131=>compFunc Tryz.prog tr131 131
 | 132=>compFunc Tryz.prog tr132 132
 | 133=>compFunc Tryz.prog tr133 133
 | 134=>compFunc Tryz.prog tr134 134
 | 135=>compFunc Tryz.prog tr135 135
 | 138=>compFunc Tryz.prog tr138 138
 | 139=>compFunc Tryz.prog tr139 139
 | 140=>compFunc Tryz.prog tr140 140
 | 141=>compFunc Tryz.prog tr141 141
 | 142=>compFunc Tryz.prog tr142 142
 | _=>none
theorem compiled8x(f:FuncId)(cf:CF)(h:cp8x f=some cf):∃t,compFunc Tryz.prog t f=some cf:=by
 unfold cp8x at h
 split at h
 ·exact⟨_,h⟩
 ·exact⟨_,h⟩
 ·exact⟨_,h⟩
 ·exact⟨_,h⟩
 ·exact⟨_,h⟩
 ·exact⟨_,h⟩
 ·exact⟨_,h⟩
 ·exact⟨_,h⟩
 ·exact⟨_,h⟩
 ·exact⟨_,h⟩
 ·exact⟨_,h⟩
 ·exact⟨_,h⟩
 ·exact⟨_,h⟩
 ·simp at h
noncomputable def cp9x:FuncId→Option CF
 | 148=>some cf148
 | 149=>some cf149
 | 150=>some cf150
 | 151=>some cf151
 | 152=>some cf152
 | 153=>some cf153
 | 154=>some cf154
 | 155=>some cf155
 | 156=>some cf156
 | 157=>some cf157
 | 158=>some cf158
 | 159=>some cf159
 | _=>none
theorem compiled9x(f:FuncId)(cf:CF)(h:cp9x f=some cf):∃t,compFunc Tryz.prog t f=some cf:=by
 unfold cp9x at h
 split at h
 ·cases h;exact⟨_,is148⟩
 ·cases h;exact⟨_,is149⟩
 ·cases h;exact⟨_,is150⟩
 ·cases h;exact⟨_,is151⟩
 ·cases h;exact⟨_,is152⟩
 ·cases h;exact⟨_,is153⟩
 ·cases h;exact⟨_,is154⟩
 ·cases h;exact⟨_,is155⟩
 ·cases h;exact⟨_,is156⟩
 ·cases h;exact⟨_,is157⟩
 ·cases h;exact⟨_,is158⟩
 ·cases h;exact⟨_,is159⟩
 ·simp at h
noncomputable def cp10x:FuncId→Option CF
 | 160=>some cf160
 | 161=>some cf161
 | 162=>some cf162
 | 163=>some cf163
 | 164=>some cf164
 | 165=>some cf165
 | 166=>some cf166
 | 167=>some cf167
 | 168=>some cf168
 | 169=>some cf169
 | 170=>some cf170
 | 171=>some cf171
 | 172=>some cf172
 | _=>none
theorem compiled10x(f:FuncId)(cf:CF)(h:cp10x f=some cf):∃t,compFunc Tryz.prog t f=some cf:=by
 unfold cp10x at h
 split at h
 ·cases h;exact⟨_,is160⟩
 ·cases h;exact⟨_,is161⟩
 ·cases h;exact⟨_,is162⟩
 ·cases h;exact⟨_,is163⟩
 ·cases h;exact⟨_,is164⟩
 ·cases h;exact⟨_,is165⟩
 ·cases h;exact⟨_,is166⟩
 ·cases h;exact⟨_,is167⟩
 ·cases h;exact⟨_,is168⟩
 ·cases h;exact⟨_,is169⟩
 ·cases h;exact⟨_,is170⟩
 ·cases h;exact⟨_,is171⟩
 ·cases h;exact⟨_,is172⟩
 ·simp at h
noncomputable def cp11x:FuncId→Option CF
 | 176=>compFunc Tryz.prog tr176 176
 | 177=>compFunc Tryz.prog tr177 177
 | 178=>compFunc Tryz.prog tr178 178
 | 179=>compFunc Tryz.prog tr179 179
 | 180=>compFunc Tryz.prog tr180 180
 | 182=>compFunc Tryz.prog tr182 182
 | 183=>compFunc Tryz.prog tr183 183
 | 184=>compFunc Tryz.prog tr184 184
 | 185=>compFunc Tryz.prog tr185 185
 | 189=>some cf189
 | 190=>some cf190
 | 191=>some cf191
 | _=>none
theorem compiled11x(f:FuncId)(cf:CF)(h:cp11x f=some cf):∃t,compFunc Tryz.prog t f=some cf:=by
 unfold cp11x at h
 split at h
 ·exact⟨_,h⟩
 ·exact⟨_,h⟩
 ·exact⟨_,h⟩
 ·exact⟨_,h⟩
 ·exact⟨_,h⟩
 ·exact⟨_,h⟩
 ·exact⟨_,h⟩
 ·exact⟨_,h⟩
 ·exact⟨_,h⟩
 ·cases h;exact⟨_,is189⟩
 ·cases h;exact⟨_,is190⟩
 ·cases h;exact⟨_,is191⟩
 ·simp at h
noncomputable def cp12x:FuncId→Option CF
 | 192=>some cf192
 | 193=>some cf193
 | 194=>compFunc Tryz.prog tr194 194
 | 195=>compFunc Tryz.prog tr195 195
 | 196=>compFunc Tryz.prog tr196 196
 | 197=>compFunc Tryz.prog tr197 197
 | 198=>compFunc Tryz.prog tr198 198
 | 199=>compFunc Tryz.prog tr199 199
 | 200=>compFunc Tryz.prog tr200 200
 | 201=>compFunc Tryz.prog tr201 201
 | 203=>compFunc Tryz.prog tr203 203
 | 204=>some cf204
 | 205=>compFunc Tryz.prog tr205 205
 | 206=>compFunc Tryz.prog tr206 206
 | 207=>compFunc Tryz.prog tr207 207
 | _=>none
theorem compiled12x(f:FuncId)(cf:CF)(h:cp12x f=some cf):∃t,compFunc Tryz.prog t f=some cf:=by
 unfold cp12x at h
 split at h
 ·cases h;exact⟨_,is192⟩
 ·cases h;exact⟨_,is193⟩
 ·exact⟨_,h⟩
 ·exact⟨_,h⟩
 ·exact⟨_,h⟩
 ·exact⟨_,h⟩
 ·exact⟨_,h⟩
 ·exact⟨_,h⟩
 ·exact⟨_,h⟩
 ·exact⟨_,h⟩
 ·exact⟨_,h⟩
 ·cases h;exact⟨_,is204⟩
 ·exact⟨_,h⟩
 ·exact⟨_,h⟩
 ·exact⟨_,h⟩
 ·simp at h
noncomputable def cp13x:FuncId→Option CF
 | 208=>compFunc Tryz.prog tr208 208
 | 209=>compFunc Tryz.prog tr209 209
 | 210=>compFunc Tryz.prog tr210 210
 | 211=>compFunc Tryz.prog tr211 211
 | 212=>compFunc Tryz.prog tr212 212
 | _=>none
theorem compiled13x(f:FuncId)(cf:CF)(h:cp13x f=some cf):∃t,compFunc Tryz.prog t f=some cf:=by
 unfold cp13x at h
 split at h
 ·exact⟨_,h⟩
 ·exact⟨_,h⟩
 ·exact⟨_,h⟩
 ·exact⟨_,h⟩
 ·exact⟨_,h⟩
 ·simp at h
theorem plain0x(f:FuncId)(cf:CF)(h:cp0x f=some cf):plainCF cf=true:=by
 unfold cp0x at h
 split at h
 ·cases h;kernel_rfl
 ·cases h;kernel_rfl
 ·cases h;kernel_rfl
 ·cases h;kernel_rfl
 ·cases h;kernel_rfl
 ·simp at h
theorem plain1x(f:FuncId)(cf:CF)(h:cp1x f=some cf):plainCF cf=true:=by
 unfold cp1x at h
 split at h
 ·cases h;kernel_rfl
 ·cases h;kernel_rfl
 ·cases h;kernel_rfl
 ·have:=pl26;rw[h]at this;exact this
 ·cases h;kernel_rfl
 ·cases h;kernel_rfl
 ·cases h;kernel_rfl
 ·cases h;kernel_rfl
 ·cases h;kernel_rfl
 ·simp at h
theorem plain2x(f:FuncId)(cf:CF)(h:cp2x f=some cf):plainCF cf=true:=by
 unfold cp2x at h
 split at h
 ·cases h;kernel_rfl
 ·cases h;kernel_rfl
 ·cases h;kernel_rfl
 ·cases h;kernel_rfl
 ·cases h;kernel_rfl
 ·have:=pl38;rw[h]at this;exact this
 ·have:=pl39;rw[h]at this;exact this
 ·have:=pl40;rw[h]at this;exact this
 ·have:=pl41;rw[h]at this;exact this
 ·have:=pl45;rw[h]at this;exact this
 ·have:=pl46;rw[h]at this;exact this
 ·simp at h
theorem plain3x(f:FuncId)(cf:CF)(h:cp3x f=some cf):plainCF cf=true:=by
 unfold cp3x at h
 split at h
 ·have:=pl53;rw[h]at this;exact this
 ·cases h;kernel_rfl
 ·have:=pl55;rw[h]at this;exact this
 ·cases h;kernel_rfl
 ·cases h;kernel_rfl
 ·cases h;kernel_rfl
 ·cases h;kernel_rfl
 ·cases h;kernel_rfl
 ·cases h;kernel_rfl
 ·cases h;kernel_rfl
 ·cases h;kernel_rfl
 ·simp at h
theorem plain4x(f:FuncId)(cf:CF)(h:cp4x f=some cf):plainCF cf=true:=by
 unfold cp4x at h
 split at h
 ·cases h;kernel_rfl
 ·cases h;kernel_rfl
 ·cases h;kernel_rfl
 ·cases h;kernel_rfl
 ·cases h;kernel_rfl
 ·cases h;kernel_rfl
 ·cases h;kernel_rfl
 ·cases h;kernel_rfl
 ·cases h;kernel_rfl
 ·have:=pl75;rw[h]at this;exact this
 ·have:=pl76;rw[h]at this;exact this
 ·have:=pl77;rw[h]at this;exact this
 ·have:=pl78;rw[h]at this;exact this
 ·have:=pl79;rw[h]at this;exact this
 ·simp at h
theorem plain5x(f:FuncId)(cf:CF)(h:cp5x f=some cf):plainCF cf=true:=by
 unfold cp5x at h
 split at h
 ·have:=pl80;rw[h]at this;exact this
 ·have:=pl86;rw[h]at this;exact this
 ·have:=pl87;rw[h]at this;exact this
 ·have:=pl88;rw[h]at this;exact this
 ·have:=pl89;rw[h]at this;exact this
 ·simp at h
theorem plain6x(f:FuncId)(cf:CF)(h:cp6x f=some cf):plainCF cf=true:=by
 unfold cp6x at h
 split at h
 ·cases h;kernel_rfl
 ·cases h;kernel_rfl
 ·cases h;kernel_rfl
 ·cases h;kernel_rfl
 ·cases h;kernel_rfl
 ·cases h;kernel_rfl
 ·cases h;kernel_rfl
 ·cases h;kernel_rfl
 ·cases h;kernel_rfl
 ·cases h;kernel_rfl
 ·cases h;kernel_rfl
 ·cases h;kernel_rfl
 ·cases h;kernel_rfl
 ·simp at h
theorem plain7x(f:FuncId)(cf:CF)(h:cp7x f=some cf):plainCF cf=true:=by
 unfold cp7x at h
 split at h
 ·cases h;kernel_rfl
 ·cases h;kernel_rfl
 ·cases h;kernel_rfl
 ·cases h;kernel_rfl
 ·cases h;kernel_rfl
 ·cases h;kernel_rfl
 ·cases h;kernel_rfl
 ·cases h;kernel_rfl
 ·cases h;kernel_rfl
 ·cases h;kernel_rfl
 ·simp at h
theorem plain8x(f:FuncId)(cf:CF)(h:cp8x f=some cf):plainCF cf=true:=by
 unfold cp8x at h
 split at h
 ·have:=pl128;rw[h]at this;exact this
 ·have:=pl129;rw[h]at this;exact this
 ·have:=pl130;rw[h]at this;exact this
 ·have:=pl131;rw[h]at this;exact this
 ·have:=pl132;rw[h]at this;exact this
 ·have:=pl133;rw[h]at this;exact this
 ·have:=pl134;rw[h]at this;exact this
 ·have:=pl135;rw[h]at this;exact this
 ·have:=pl138;rw[h]at this;exact this
 ·have:=pl139;rw[h]at this;exact this
 ·have:=pl140;rw[h]at this;exact this
 ·have:=pl141;rw[h]at this;exact this
 ·have:=pl142;rw[h]at this;exact this
 ·simp at h
theorem plain9x(f:FuncId)(cf:CF)(h:cp9x f=some cf):plainCF cf=true:=by
 unfold cp9x at h
 split at h
 ·cases h;kernel_rfl
 ·cases h;kernel_rfl
 ·cases h;kernel_rfl
 ·cases h;kernel_rfl
 ·cases h;kernel_rfl
 ·cases h;kernel_rfl
 ·cases h;kernel_rfl
 ·cases h;kernel_rfl
 ·cases h;kernel_rfl
 ·cases h;kernel_rfl
 ·cases h;kernel_rfl
 ·cases h;kernel_rfl
 ·simp at h
theorem plain10x(f:FuncId)(cf:CF)(h:cp10x f=some cf):plainCF cf=true:=by
 unfold cp10x at h
 split at h
 ·cases h;kernel_rfl
 ·cases h;kernel_rfl
 ·cases h;kernel_rfl
 ·cases h;kernel_rfl
 ·cases h;kernel_rfl
 ·cases h;kernel_rfl
 ·cases h;kernel_rfl
 ·cases h;kernel_rfl
 ·cases h;kernel_rfl
 ·cases h;kernel_rfl
 ·cases h;kernel_rfl
 ·cases h;kernel_rfl
 ·cases h;kernel_rfl
 ·simp at h
theorem plain11x(f:FuncId)(cf:CF)(h:cp11x f=some cf):plainCF cf=true:=by
 unfold cp11x at h
 split at h
 ·have:=pl176;rw[h]at this;exact this
 ·have:=pl177;rw[h]at this;exact this
 ·have:=pl178;rw[h]at this;exact this
 ·have:=pl179;rw[h]at this;exact this
 ·have:=pl180;rw[h]at this;exact this
 ·have:=pl182;rw[h]at this;exact this
 ·have:=pl183;rw[h]at this;exact this
 ·have:=pl184;rw[h]at this;exact this
 ·have:=pl185;rw[h]at this;exact this
 ·cases h;kernel_rfl
 ·cases h;kernel_rfl
 ·cases h;kernel_rfl
 ·simp at h
theorem plain12x(f:FuncId)(cf:CF)(h:cp12x f=some cf):plainCF cf=true:=by
 unfold cp12x at h
 split at h
 ·cases h;kernel_rfl
 ·cases h;kernel_rfl
 ·have:=pl194;rw[h]at this;exact this
 ·have:=pl195;rw[h]at this;exact this
 ·have:=pl196;rw[h]at this;exact this
 ·have:=pl197;rw[h]at this;exact this
 ·have:=pl198;rw[h]at this;exact this
 ·have:=pl199;rw[h]at this;exact this
 ·have:=pl200;rw[h]at this;exact this
 ·have:=pl201;rw[h]at this;exact this
 ·have:=pl203;rw[h]at this;exact this
 ·cases h;kernel_rfl
 ·have:=pl205;rw[h]at this;exact this
 ·have:=pl206;rw[h]at this;exact this
 ·have:=pl207;rw[h]at this;exact this
 ·simp at h
theorem plain13x(f:FuncId)(cf:CF)(h:cp13x f=some cf):plainCF cf=true:=by
 unfold cp13x at h
 split at h
 ·have:=pl208;rw[h]at this;exact this
 ·have:=pl209;rw[h]at this;exact this
 ·have:=pl210;rw[h]at this;exact this
 ·have:=pl211;rw[h]at this;exact this
 ·have:=pl212;rw[h]at this;exact this
 ·simp at h
noncomputable def cp(f:FuncId):Option CF:=match f/16 with
 | 0=>cp0x f
 | 1=>cp1x f
 | 2=>cp2x f
 | 3=>cp3x f
 | 4=>cp4x f
 | 5=>cp5x f
 | 6=>cp6x f
 | 7=>cp7x f
 | 8=>cp8x f
 | 9=>cp9x f
 | 10=>cp10x f
 | 11=>cp11x f
 | 12=>cp12x f
 | 13=>cp13x f
 | _=>none
theorem compiled:Compiled Tryz.prog cp:=by
 intro f cf h
 unfold cp at h
 split at h
 ·exact compiled0x f cf h
 ·exact compiled1x f cf h
 ·exact compiled2x f cf h
 ·exact compiled3x f cf h
 ·exact compiled4x f cf h
 ·exact compiled5x f cf h
 ·exact compiled6x f cf h
 ·exact compiled7x f cf h
 ·exact compiled8x f cf h
 ·exact compiled9x f cf h
 ·exact compiled10x f cf h
 ·exact compiled11x f cf h
 ·exact compiled12x f cf h
 ·exact compiled13x f cf h
 ·simp at h
theorem plainCp(f:FuncId)(cf:CF)(h:cp f=some cf):plainCF cf=true:=by
 unfold cp at h
 split at h
 ·exact plain0x f cf h
 ·exact plain1x f cf h
 ·exact plain2x f cf h
 ·exact plain3x f cf h
 ·exact plain4x f cf h
 ·exact plain5x f cf h
 ·exact plain6x f cf h
 ·exact plain7x f cf h
 ·exact plain8x f cf h
 ·exact plain9x f cf h
 ·exact plain10x f cf h
 ·exact plain11x f cf h
 ·exact plain12x f cf h
 ·exact plain13x f cf h
 ·simp at h
theorem mixed:Tryz.prog.follows .mixedOrders=true:=by kernel_rfl
theorem okAll(base n:Nat):RunOK Tryz.prog base Tryz.prog.globals.size (run cp n):=sound mixed compiled base n
theorem st3{lo:Nat}{H:Heap}{R:Value→Heap→Prop}{a0 a1:Value}(h:wpS cp lo bd3 (bodyQ cf3 R) [a0,a1,undef,undef,undef,undef,undef,undef,undef,undef,undef,undef,undef,undef,undef] H):Ev cp lo 3 [a0,a1] H R:=ev_of_wp (cf:=cf3) rfl rfl rfl h
theorem st12{lo:Nat}{H:Heap}{R:Value→Heap→Prop}(h:wpS cp lo bd12 (bodyQ cf12 R) [undef,undef,undef,undef,undef,undef,undef,undef,undef,undef,undef,undef,undef,undef,undef,undef,undef,undef,undef,undef,undef,undef,undef,undef,undef,undef,undef,undef,undef,undef,undef,undef,undef,undef,undef] H):Ev cp lo 12 [] H R:=ev_of_wp (cf:=cf12) rfl rfl rfl h
theorem st13{lo:Nat}{H:Heap}{R:Value→Heap→Prop}{a0 a1:Value}(h:wpS cp lo bd13 (bodyQ cf13 R) [a0,a1,undef,undef,undef,undef,undef,undef,undef,undef,undef,undef,undef,undef,undef,undef,undef,undef,undef,undef,undef,undef,undef,undef,undef,undef,undef] H):Ev cp lo 13 [a0,a1] H R:=ev_of_wp (cf:=cf13) rfl rfl rfl h
theorem st14{lo:Nat}{H:Heap}{R:Value→Heap→Prop}{a0 a1:Value}(h:wpS cp lo bd14 (bodyQ cf14 R) [a0,a1,undef,undef,undef,undef,undef,undef,undef,undef,undef,undef,undef,undef,undef,undef,undef,undef,undef,undef,undef,undef,undef,undef,undef,undef,undef,undef,undef] H):Ev cp lo 14 [a0,a1] H R:=ev_of_wp (cf:=cf14) rfl rfl rfl h
theorem st15{lo:Nat}{H:Heap}{R:Value→Heap→Prop}{a0 a1:Value}(h:wpS cp lo bd15 (bodyQ cf15 R) [a0,a1,undef,undef] H):Ev cp lo 15 [a0,a1] H R:=ev_of_wp (cf:=cf15) rfl rfl rfl h
theorem st16{lo:Nat}{H:Heap}{R:Value→Heap→Prop}{a0 a1:Value}(h:wpS cp lo bd16 (bodyQ cf16 R) [a0,a1,undef,undef,undef,undef,undef,undef,undef,undef,undef,undef,undef,undef,undef,undef,undef,undef,undef,undef,undef,undef,undef,undef,undef,undef,undef,undef,undef,undef,undef,undef] H):Ev cp lo 16 [a0,a1] H R:=ev_of_wp (cf:=cf16) rfl rfl rfl h
theorem st18{lo:Nat}{H:Heap}{R:Value→Heap→Prop}{a0 a1:Value}(h:wpS cp lo bd18 (bodyQ cf18 R) [a0,a1,undef,undef,undef,undef,undef,undef,undef,undef,undef,undef,undef,undef,undef,undef,undef,undef,undef,undef,undef] H):Ev cp lo 18 [a0,a1] H R:=ev_of_wp (cf:=cf18) rfl rfl rfl h
theorem st21{lo:Nat}{H:Heap}{R:Value→Heap→Prop}{a0:Value}(h:wpS cp lo bd21 (bodyQ cf21 R) [a0,undef,undef,undef,undef,undef,undef,undef,undef,undef,undef,undef,undef,undef,undef,undef,undef] H):Ev cp lo 21 [a0] H R:=ev_of_wp (cf:=cf21) rfl rfl rfl h
theorem st27{lo:Nat}{H:Heap}{R:Value→Heap→Prop}{a0 a1 a2:Value}(h:wpS cp lo bd27 (bodyQ cf27 R) [a0,a1,a2,undef,undef,undef,undef,undef,undef,undef,undef,undef] H):Ev cp lo 27 [a0,a1,a2] H R:=ev_of_wp (cf:=cf27) rfl rfl rfl h
theorem st28{lo:Nat}{H:Heap}{R:Value→Heap→Prop}{a0:Value}(h:wpS cp lo bd28 (bodyQ cf28 R) [a0,undef,undef,undef,undef,undef,undef,undef,undef,undef,undef,undef] H):Ev cp lo 28 [a0] H R:=ev_of_wp (cf:=cf28) rfl rfl rfl h
theorem st29{lo:Nat}{H:Heap}{R:Value→Heap→Prop}{a0 a1:Value}(h:wpS cp lo bd29 (bodyQ cf29 R) [a0,a1,undef,undef,undef,undef,undef,undef,undef,undef,undef,undef,undef,undef,undef,undef,undef,undef,undef,undef,undef,undef,undef,undef,undef,undef,undef,undef,undef,undef,undef,undef,undef,undef,undef] H):Ev cp lo 29 [a0,a1] H R:=ev_of_wp (cf:=cf29) rfl rfl rfl h
theorem st30{lo:Nat}{H:Heap}{R:Value→Heap→Prop}{a0 a1 a2:Value}(h:wpS cp lo bd30 (bodyQ cf30 R) [a0,a1,a2,undef,undef,undef,undef,undef,undef] H):Ev cp lo 30 [a0,a1,a2] H R:=ev_of_wp (cf:=cf30) rfl rfl rfl h
theorem st31{lo:Nat}{H:Heap}{R:Value→Heap→Prop}{a0:Value}(h:wpS cp lo bd31 (bodyQ cf31 R) [a0,undef,undef,undef,undef,undef] H):Ev cp lo 31 [a0] H R:=ev_of_wp (cf:=cf31) rfl rfl rfl h
theorem st32{lo:Nat}{H:Heap}{R:Value→Heap→Prop}{a0:Value}(h:wpS cp lo bd32 (bodyQ cf32 R) [a0,undef,undef] H):Ev cp lo 32 [a0] H R:=ev_of_wp (cf:=cf32) rfl rfl rfl h
theorem st33{lo:Nat}{H:Heap}{R:Value→Heap→Prop}{a0 a1:Value}(h:wpS cp lo bd33 (bodyQ cf33 R) [a0,a1,undef,undef,undef,undef,undef,undef,undef,undef,undef,undef,undef,undef,undef,undef,undef,undef,undef,undef,undef,undef,undef,undef,undef,undef,undef,undef,undef,undef] H):Ev cp lo 33 [a0,a1] H R:=ev_of_wp (cf:=cf33) rfl rfl rfl h
theorem st34{lo:Nat}{H:Heap}{R:Value→Heap→Prop}{a0:Value}(h:wpS cp lo bd34 (bodyQ cf34 R) [a0,undef,undef,undef,undef,undef,undef] H):Ev cp lo 34 [a0] H R:=ev_of_wp (cf:=cf34) rfl rfl rfl h
theorem st35{lo:Nat}{H:Heap}{R:Value→Heap→Prop}{a0 a1 a2:Value}(h:wpS cp lo bd35 (bodyQ cf35 R) [a0,a1,a2,undef,undef,undef,undef,undef,undef] H):Ev cp lo 35 [a0,a1,a2] H R:=ev_of_wp (cf:=cf35) rfl rfl rfl h
theorem st36{lo:Nat}{H:Heap}{R:Value→Heap→Prop}{a0 a1 a2:Value}(h:wpS cp lo bd36 (bodyQ cf36 R) [a0,a1,a2,undef,undef,undef,undef,undef,undef,undef,undef,undef,undef,undef,undef,undef,undef,undef,undef,undef,undef,undef,undef,undef,undef,undef,undef,undef,undef,undef,undef,undef] H):Ev cp lo 36 [a0,a1,a2] H R:=ev_of_wp (cf:=cf36) rfl rfl rfl h
theorem st54{lo:Nat}{H:Heap}{R:Value→Heap→Prop}{a0 a1:Value}(h:wpS cp lo bd54 (bodyQ cf54 R) [a0,a1,undef,undef,undef] H):Ev cp lo 54 [a0,a1] H R:=ev_of_wp (cf:=cf54) rfl rfl rfl h
theorem st56{lo:Nat}{H:Heap}{R:Value→Heap→Prop}{a0 a1:Value}(h:wpS cp lo bd56 (bodyQ cf56 R) [a0,a1,undef,undef,undef,undef,undef] H):Ev cp lo 56 [a0,a1] H R:=ev_of_wp (cf:=cf56) rfl rfl rfl h
theorem st57{lo:Nat}{H:Heap}{R:Value→Heap→Prop}{a0 a1 a2:Value}(h:wpS cp lo bd57 (bodyQ cf57 R) [a0,a1,a2,undef,undef,undef,undef,undef] H):Ev cp lo 57 [a0,a1,a2] H R:=ev_of_wp (cf:=cf57) rfl rfl rfl h
theorem st58{lo:Nat}{H:Heap}{R:Value→Heap→Prop}{a0 a1:Value}(h:wpS cp lo bd58 (bodyQ cf58 R) [a0,a1,undef,undef,undef,undef,undef,undef,undef] H):Ev cp lo 58 [a0,a1] H R:=ev_of_wp (cf:=cf58) rfl rfl rfl h
theorem st59{lo:Nat}{H:Heap}{R:Value→Heap→Prop}{a0 a1:Value}(h:wpS cp lo bd59 (bodyQ cf59 R) [a0,a1,undef,undef] H):Ev cp lo 59 [a0,a1] H R:=ev_of_wp (cf:=cf59) rfl rfl rfl h
theorem st60{lo:Nat}{H:Heap}{R:Value→Heap→Prop}{a0:Value}(h:wpS cp lo bd60 (bodyQ cf60 R) [a0,undef,undef,undef,undef,undef,undef,undef,undef,undef,undef,undef,undef,undef,undef,undef] H):Ev cp lo 60 [a0] H R:=ev_of_wp (cf:=cf60) rfl rfl rfl h
theorem st61{lo:Nat}{H:Heap}{R:Value→Heap→Prop}{a0 a1 a2:Value}(h:wpS cp lo bd61 (bodyQ cf61 R) [a0,a1,a2,undef,undef,undef,undef,undef,undef,undef,undef,undef] H):Ev cp lo 61 [a0,a1,a2] H R:=ev_of_wp (cf:=cf61) rfl rfl rfl h
theorem st62{lo:Nat}{H:Heap}{R:Value→Heap→Prop}{a0:Value}(h:wpS cp lo bd62 (bodyQ cf62 R) [a0,undef,undef,undef] H):Ev cp lo 62 [a0] H R:=ev_of_wp (cf:=cf62) rfl rfl rfl h
theorem st63{lo:Nat}{H:Heap}{R:Value→Heap→Prop}{a0 a1 a2:Value}(h:wpS cp lo bd63 (bodyQ cf63 R) [a0,a1,a2,undef,undef,undef,undef,undef,undef] H):Ev cp lo 63 [a0,a1,a2] H R:=ev_of_wp (cf:=cf63) rfl rfl rfl h
theorem st64{lo:Nat}{H:Heap}{R:Value→Heap→Prop}{a0:Value}(h:wpS cp lo bd64 (bodyQ cf64 R) [a0,undef,undef,undef,undef] H):Ev cp lo 64 [a0] H R:=ev_of_wp (cf:=cf64) rfl rfl rfl h
theorem st65{lo:Nat}{H:Heap}{R:Value→Heap→Prop}{a0 a1:Value}(h:wpS cp lo bd65 (bodyQ cf65 R) [a0,a1,undef,undef,undef,undef] H):Ev cp lo 65 [a0,a1] H R:=ev_of_wp (cf:=cf65) rfl rfl rfl h
theorem st66{lo:Nat}{H:Heap}{R:Value→Heap→Prop}{a0:Value}(h:wpS cp lo bd66 (bodyQ cf66 R) [a0,undef,undef,undef,undef,undef,undef,undef,undef,undef,undef,undef,undef,undef] H):Ev cp lo 66 [a0] H R:=ev_of_wp (cf:=cf66) rfl rfl rfl h
theorem st67{lo:Nat}{H:Heap}{R:Value→Heap→Prop}{a0 a1 a2:Value}(h:wpS cp lo bd67 (bodyQ cf67 R) [a0,a1,a2,undef,undef] H):Ev cp lo 67 [a0,a1,a2] H R:=ev_of_wp (cf:=cf67) rfl rfl rfl h
theorem st68{lo:Nat}{H:Heap}{R:Value→Heap→Prop}{a0 a1 a2:Value}(h:wpS cp lo bd68 (bodyQ cf68 R) [a0,a1,a2,undef,undef] H):Ev cp lo 68 [a0,a1,a2] H R:=ev_of_wp (cf:=cf68) rfl rfl rfl h
theorem st69{lo:Nat}{H:Heap}{R:Value→Heap→Prop}{a0 a1 a2:Value}(h:wpS cp lo bd69 (bodyQ cf69 R) [a0,a1,a2,undef,undef,undef,undef,undef] H):Ev cp lo 69 [a0,a1,a2] H R:=ev_of_wp (cf:=cf69) rfl rfl rfl h
theorem st70{lo:Nat}{H:Heap}{R:Value→Heap→Prop}{a0 a1 a2:Value}(h:wpS cp lo bd70 (bodyQ cf70 R) [a0,a1,a2,undef,undef,undef,undef,undef,undef,undef] H):Ev cp lo 70 [a0,a1,a2] H R:=ev_of_wp (cf:=cf70) rfl rfl rfl h
theorem st71{lo:Nat}{H:Heap}{R:Value→Heap→Prop}{a0:Value}(h:wpS cp lo bd71 (bodyQ cf71 R) [a0,undef,undef,undef,undef,undef,undef,undef,undef,undef,undef,undef,undef,undef,undef,undef,undef,undef,undef,undef,undef,undef] H):Ev cp lo 71 [a0] H R:=ev_of_wp (cf:=cf71) rfl rfl rfl h
theorem st72{lo:Nat}{H:Heap}{R:Value→Heap→Prop}{a0:Value}(h:wpS cp lo bd72 (bodyQ cf72 R) [a0,undef,undef,undef,undef,undef,undef,undef,undef] H):Ev cp lo 72 [a0] H R:=ev_of_wp (cf:=cf72) rfl rfl rfl h
theorem st99{lo:Nat}{H:Heap}{R:Value→Heap→Prop}{a0 a1:Value}(h:wpS cp lo bd99 (bodyQ cf99 R) [a0,a1,undef,undef,undef,undef,undef] H):Ev cp lo 99 [a0,a1] H R:=ev_of_wp (cf:=cf99) rfl rfl rfl h
theorem st100{lo:Nat}{H:Heap}{R:Value→Heap→Prop}{a0:Value}(h:wpS cp lo bd100 (bodyQ cf100 R) [a0,undef,undef,undef,undef,undef,undef,undef,undef,undef,undef,undef] H):Ev cp lo 100 [a0] H R:=ev_of_wp (cf:=cf100) rfl rfl rfl h
theorem st101{lo:Nat}{H:Heap}{R:Value→Heap→Prop}{a0 a1 a2:Value}(h:wpS cp lo bd101 (bodyQ cf101 R) [a0,a1,a2,undef,undef] H):Ev cp lo 101 [a0,a1,a2] H R:=ev_of_wp (cf:=cf101) rfl rfl rfl h
theorem st102{lo:Nat}{H:Heap}{R:Value→Heap→Prop}{a0 a1:Value}(h:wpS cp lo bd102 (bodyQ cf102 R) [a0,a1,undef,undef,undef,undef,undef,undef] H):Ev cp lo 102 [a0,a1] H R:=ev_of_wp (cf:=cf102) rfl rfl rfl h
theorem st103{lo:Nat}{H:Heap}{R:Value→Heap→Prop}{a0 a1:Value}(h:wpS cp lo bd103 (bodyQ cf103 R) [a0,a1,undef,undef] H):Ev cp lo 103 [a0,a1] H R:=ev_of_wp (cf:=cf103) rfl rfl rfl h
theorem st104{lo:Nat}{H:Heap}{R:Value→Heap→Prop}{a0 a1:Value}(h:wpS cp lo bd104 (bodyQ cf104 R) [a0,a1,undef,undef,undef,undef,undef,undef,undef,undef,undef,undef,undef,undef,undef,undef,undef] H):Ev cp lo 104 [a0,a1] H R:=ev_of_wp (cf:=cf104) rfl rfl rfl h
theorem st105{lo:Nat}{H:Heap}{R:Value→Heap→Prop}{a0 a1:Value}(h:wpS cp lo bd105 (bodyQ cf105 R) [a0,a1,undef,undef,undef,undef,undef,undef,undef,undef,undef,undef] H):Ev cp lo 105 [a0,a1] H R:=ev_of_wp (cf:=cf105) rfl rfl rfl h
theorem st106{lo:Nat}{H:Heap}{R:Value→Heap→Prop}{a0:Value}(h:wpS cp lo bd106 (bodyQ cf106 R) [a0,undef,undef,undef,undef,undef,undef,undef,undef,undef,undef,undef,undef,undef,undef,undef,undef,undef,undef,undef,undef,undef] H):Ev cp lo 106 [a0] H R:=ev_of_wp (cf:=cf106) rfl rfl rfl h
theorem st107{lo:Nat}{H:Heap}{R:Value→Heap→Prop}{a0 a1 a2:Value}(h:wpS cp lo bd107 (bodyQ cf107 R) [a0,a1,a2,undef,undef,undef,undef,undef,undef,undef,undef,undef,undef,undef,undef,undef,undef,undef,undef,undef,undef,undef,undef,undef,undef] H):Ev cp lo 107 [a0,a1,a2] H R:=ev_of_wp (cf:=cf107) rfl rfl rfl h
theorem st108{lo:Nat}{H:Heap}{R:Value→Heap→Prop}{a0 a1:Value}(h:wpS cp lo bd108 (bodyQ cf108 R) [a0,a1,undef,undef,undef,undef,undef,undef,undef] H):Ev cp lo 108 [a0,a1] H R:=ev_of_wp (cf:=cf108) rfl rfl rfl h
theorem st109{lo:Nat}{H:Heap}{R:Value→Heap→Prop}{a0:Value}(h:wpS cp lo bd109 (bodyQ cf109 R) [a0,undef,undef,undef,undef,undef,undef,undef,undef] H):Ev cp lo 109 [a0] H R:=ev_of_wp (cf:=cf109) rfl rfl rfl h
theorem st110{lo:Nat}{H:Heap}{R:Value→Heap→Prop}{a0 a1:Value}(h:wpS cp lo bd110 (bodyQ cf110 R) [a0,a1,undef,undef] H):Ev cp lo 110 [a0,a1] H R:=ev_of_wp (cf:=cf110) rfl rfl rfl h
theorem st111{lo:Nat}{H:Heap}{R:Value→Heap→Prop}{a0:Value}(h:wpS cp lo bd111 (bodyQ cf111 R) [a0,undef,undef,undef,undef,undef,undef,undef,undef,undef,undef,undef,undef] H):Ev cp lo 111 [a0] H R:=ev_of_wp (cf:=cf111) rfl rfl rfl h
theorem st112{lo:Nat}{H:Heap}{R:Value→Heap→Prop}{a0 a1 a2 a3:Value}(h:wpS cp lo bd112 (bodyQ cf112 R) [a0,a1,a2,a3,undef,undef,undef,undef,undef,undef,undef,undef,undef,undef,undef,undef] H):Ev cp lo 112 [a0,a1,a2,a3] H R:=ev_of_wp (cf:=cf112) rfl rfl rfl h
theorem st113{lo:Nat}{H:Heap}{R:Value→Heap→Prop}{a0 a1:Value}(h:wpS cp lo bd113 (bodyQ cf113 R) [a0,a1,undef,undef,undef,undef,undef] H):Ev cp lo 113 [a0,a1] H R:=ev_of_wp (cf:=cf113) rfl rfl rfl h
theorem st114{lo:Nat}{H:Heap}{R:Value→Heap→Prop}{a0:Value}(h:wpS cp lo bd114 (bodyQ cf114 R) [a0,undef,undef,undef,undef,undef] H):Ev cp lo 114 [a0] H R:=ev_of_wp (cf:=cf114) rfl rfl rfl h
theorem st115{lo:Nat}{H:Heap}{R:Value→Heap→Prop}{a0 a1 a2:Value}(h:wpS cp lo bd115 (bodyQ cf115 R) [a0,a1,a2,undef,undef,undef,undef,undef,undef,undef] H):Ev cp lo 115 [a0,a1,a2] H R:=ev_of_wp (cf:=cf115) rfl rfl rfl h
theorem st116{lo:Nat}{H:Heap}{R:Value→Heap→Prop}{a0:Value}(h:wpS cp lo bd116 (bodyQ cf116 R) [a0,undef,undef,undef] H):Ev cp lo 116 [a0] H R:=ev_of_wp (cf:=cf116) rfl rfl rfl h
theorem st117{lo:Nat}{H:Heap}{R:Value→Heap→Prop}{a0:Value}(h:wpS cp lo bd117 (bodyQ cf117 R) [a0,undef,undef,undef,undef,undef,undef,undef,undef,undef,undef,undef,undef,undef,undef,undef,undef] H):Ev cp lo 117 [a0] H R:=ev_of_wp (cf:=cf117) rfl rfl rfl h
theorem st118{lo:Nat}{H:Heap}{R:Value→Heap→Prop}{a0:Value}(h:wpS cp lo bd118 (bodyQ cf118 R) [a0,undef,undef,undef,undef,undef] H):Ev cp lo 118 [a0] H R:=ev_of_wp (cf:=cf118) rfl rfl rfl h
theorem st119{lo:Nat}{H:Heap}{R:Value→Heap→Prop}{a0:Value}(h:wpS cp lo bd119 (bodyQ cf119 R) [a0,undef,undef,undef,undef,undef,undef,undef,undef,undef,undef,undef,undef,undef,undef,undef,undef,undef,undef,undef,undef,undef,undef] H):Ev cp lo 119 [a0] H R:=ev_of_wp (cf:=cf119) rfl rfl rfl h
theorem st120{lo:Nat}{H:Heap}{R:Value→Heap→Prop}{a0:Value}(h:wpS cp lo bd120 (bodyQ cf120 R) [a0,undef,undef,undef,undef,undef,undef,undef,undef,undef,undef,undef,undef,undef,undef,undef,undef,undef,undef,undef,undef,undef,undef,undef,undef,undef,undef,undef,undef,undef,undef,undef,undef,undef,undef,undef] H):Ev cp lo 120 [a0] H R:=ev_of_wp (cf:=cf120) rfl rfl rfl h
theorem st121{lo:Nat}{H:Heap}{R:Value→Heap→Prop}{a0:Value}(h:wpS cp lo bd121 (bodyQ cf121 R) [a0,undef,undef,undef,undef,undef] H):Ev cp lo 121 [a0] H R:=ev_of_wp (cf:=cf121) rfl rfl rfl h
theorem st148{lo:Nat}{H:Heap}{R:Value→Heap→Prop}{a0:Value}(h:wpS cp lo bd148 (bodyQ cf148 R) [a0,undef,undef] H):Ev cp lo 148 [a0] H R:=ev_of_wp (cf:=cf148) rfl rfl rfl h
theorem st149{lo:Nat}{H:Heap}{R:Value→Heap→Prop}{a0:Value}(h:wpS cp lo bd149 (bodyQ cf149 R) [a0,undef,undef] H):Ev cp lo 149 [a0] H R:=ev_of_wp (cf:=cf149) rfl rfl rfl h
theorem st150{lo:Nat}{H:Heap}{R:Value→Heap→Prop}{a0:Value}(h:wpS cp lo bd150 (bodyQ cf150 R) [a0,undef,undef,undef,undef,undef,undef] H):Ev cp lo 150 [a0] H R:=ev_of_wp (cf:=cf150) rfl rfl rfl h
theorem st151{lo:Nat}{H:Heap}{R:Value→Heap→Prop}{a0 a1:Value}(h:wpS cp lo bd151 (bodyQ cf151 R) [a0,a1,undef,undef,undef,undef,undef,undef] H):Ev cp lo 151 [a0,a1] H R:=ev_of_wp (cf:=cf151) rfl rfl rfl h
theorem st152{lo:Nat}{H:Heap}{R:Value→Heap→Prop}{a0 a1 a2 a3:Value}(h:wpS cp lo bd152 (bodyQ cf152 R) [a0,a1,a2,a3,undef,undef,undef,undef,undef,undef,undef,undef,undef,undef,undef,undef,undef,undef,undef] H):Ev cp lo 152 [a0,a1,a2,a3] H R:=ev_of_wp (cf:=cf152) rfl rfl rfl h
theorem st153{lo:Nat}{H:Heap}{R:Value→Heap→Prop}{a0 a1 a2:Value}(h:wpS cp lo bd153 (bodyQ cf153 R) [a0,a1,a2,undef,undef] H):Ev cp lo 153 [a0,a1,a2] H R:=ev_of_wp (cf:=cf153) rfl rfl rfl h
theorem st154{lo:Nat}{H:Heap}{R:Value→Heap→Prop}{a0 a1 a2:Value}(h:wpS cp lo bd154 (bodyQ cf154 R) [a0,a1,a2,undef,undef] H):Ev cp lo 154 [a0,a1,a2] H R:=ev_of_wp (cf:=cf154) rfl rfl rfl h
theorem st155{lo:Nat}{H:Heap}{R:Value→Heap→Prop}{a0 a1 a2:Value}(h:wpS cp lo bd155 (bodyQ cf155 R) [a0,a1,a2,undef,undef] H):Ev cp lo 155 [a0,a1,a2] H R:=ev_of_wp (cf:=cf155) rfl rfl rfl h
theorem st156{lo:Nat}{H:Heap}{R:Value→Heap→Prop}{a0:Value}(h:wpS cp lo bd156 (bodyQ cf156 R) [a0,undef,undef] H):Ev cp lo 156 [a0] H R:=ev_of_wp (cf:=cf156) rfl rfl rfl h
theorem st157{lo:Nat}{H:Heap}{R:Value→Heap→Prop}{a0 a1:Value}(h:wpS cp lo bd157 (bodyQ cf157 R) [a0,a1,undef,undef,undef,undef,undef,undef] H):Ev cp lo 157 [a0,a1] H R:=ev_of_wp (cf:=cf157) rfl rfl rfl h
theorem st158{lo:Nat}{H:Heap}{R:Value→Heap→Prop}{a0:Value}(h:wpS cp lo bd158 (bodyQ cf158 R) [a0,undef,undef] H):Ev cp lo 158 [a0] H R:=ev_of_wp (cf:=cf158) rfl rfl rfl h
theorem st159{lo:Nat}{H:Heap}{R:Value→Heap→Prop}{a0:Value}(h:wpS cp lo bd159 (bodyQ cf159 R) [a0,undef,undef,undef,undef,undef] H):Ev cp lo 159 [a0] H R:=ev_of_wp (cf:=cf159) rfl rfl rfl h
theorem st160{lo:Nat}{H:Heap}{R:Value→Heap→Prop}{a0 a1 a2:Value}(h:wpS cp lo bd160 (bodyQ cf160 R) [a0,a1,a2,undef,undef,undef,undef,undef] H):Ev cp lo 160 [a0,a1,a2] H R:=ev_of_wp (cf:=cf160) rfl rfl rfl h
theorem st161{lo:Nat}{H:Heap}{R:Value→Heap→Prop}{a0:Value}(h:wpS cp lo bd161 (bodyQ cf161 R) [a0,undef,undef,undef,undef,undef] H):Ev cp lo 161 [a0] H R:=ev_of_wp (cf:=cf161) rfl rfl rfl h
theorem st162{lo:Nat}{H:Heap}{R:Value→Heap→Prop}{a0 a1 a2:Value}(h:wpS cp lo bd162 (bodyQ cf162 R) [a0,a1,a2,undef,undef,undef] H):Ev cp lo 162 [a0,a1,a2] H R:=ev_of_wp (cf:=cf162) rfl rfl rfl h
theorem st163{lo:Nat}{H:Heap}{R:Value→Heap→Prop}{a0 a1 a2:Value}(h:wpS cp lo bd163 (bodyQ cf163 R) [a0,a1,a2,undef,undef,undef,undef,undef,undef,undef,undef,undef,undef,undef,undef,undef,undef,undef,undef,undef,undef,undef,undef] H):Ev cp lo 163 [a0,a1,a2] H R:=ev_of_wp (cf:=cf163) rfl rfl rfl h
theorem st164{lo:Nat}{H:Heap}{R:Value→Heap→Prop}{a0 a1 a2 a3 a4:Value}(h:wpS cp lo bd164 (bodyQ cf164 R) [a0,a1,a2,a3,a4,undef,undef,undef,undef,undef,undef,undef,undef,undef,undef,undef,undef,undef,undef,undef] H):Ev cp lo 164 [a0,a1,a2,a3,a4] H R:=ev_of_wp (cf:=cf164) rfl rfl rfl h
theorem st165{lo:Nat}{H:Heap}{R:Value→Heap→Prop}{a0 a1:Value}(h:wpS cp lo bd165 (bodyQ cf165 R) [a0,a1,undef] H):Ev cp lo 165 [a0,a1] H R:=ev_of_wp (cf:=cf165) rfl rfl rfl h
theorem st166{lo:Nat}{H:Heap}{R:Value→Heap→Prop}{a0 a1 a2 a3:Value}(h:wpS cp lo bd166 (bodyQ cf166 R) [a0,a1,a2,a3,undef,undef,undef,undef,undef,undef,undef,undef,undef,undef,undef,undef,undef,undef,undef,undef] H):Ev cp lo 166 [a0,a1,a2,a3] H R:=ev_of_wp (cf:=cf166) rfl rfl rfl h
theorem st167{lo:Nat}{H:Heap}{R:Value→Heap→Prop}{a0 a1:Value}(h:wpS cp lo bd167 (bodyQ cf167 R) [a0,a1,undef,undef,undef,undef,undef,undef,undef,undef,undef,undef,undef,undef,undef,undef,undef,undef,undef,undef,undef,undef,undef,undef,undef,undef,undef,undef] H):Ev cp lo 167 [a0,a1] H R:=ev_of_wp (cf:=cf167) rfl rfl rfl h
theorem st168{lo:Nat}{H:Heap}{R:Value→Heap→Prop}{a0 a1 a2:Value}(h:wpS cp lo bd168 (bodyQ cf168 R) [a0,a1,a2,undef,undef,undef,undef,undef,undef,undef,undef] H):Ev cp lo 168 [a0,a1,a2] H R:=ev_of_wp (cf:=cf168) rfl rfl rfl h
theorem st169{lo:Nat}{H:Heap}{R:Value→Heap→Prop}{a0 a1:Value}(h:wpS cp lo bd169 (bodyQ cf169 R) [a0,a1,undef,undef,undef,undef,undef,undef,undef,undef] H):Ev cp lo 169 [a0,a1] H R:=ev_of_wp (cf:=cf169) rfl rfl rfl h
theorem st170{lo:Nat}{H:Heap}{R:Value→Heap→Prop}{a0 a1 a2:Value}(h:wpS cp lo bd170 (bodyQ cf170 R) [a0,a1,a2,undef,undef] H):Ev cp lo 170 [a0,a1,a2] H R:=ev_of_wp (cf:=cf170) rfl rfl rfl h
theorem st171{lo:Nat}{H:Heap}{R:Value→Heap→Prop}{a0 a1 a2:Value}(h:wpS cp lo bd171 (bodyQ cf171 R) [a0,a1,a2,undef,undef] H):Ev cp lo 171 [a0,a1,a2] H R:=ev_of_wp (cf:=cf171) rfl rfl rfl h
theorem st172{lo:Nat}{H:Heap}{R:Value→Heap→Prop}{a0 a1 a2:Value}(h:wpS cp lo bd172 (bodyQ cf172 R) [a0,a1,a2,undef,undef] H):Ev cp lo 172 [a0,a1,a2] H R:=ev_of_wp (cf:=cf172) rfl rfl rfl h
theorem st189{lo:Nat}{H:Heap}{R:Value→Heap→Prop}{a0:Value}(h:wpS cp lo bd189 (bodyQ cf189 R) [a0,undef,undef,undef] H):Ev cp lo 189 [a0] H R:=ev_of_wp (cf:=cf189) rfl rfl rfl h
theorem st190{lo:Nat}{H:Heap}{R:Value→Heap→Prop}{a0 a1:Value}(h:wpS cp lo bd190 (bodyQ cf190 R) [a0,a1,undef,undef,undef,undef,undef,undef,undef] H):Ev cp lo 190 [a0,a1] H R:=ev_of_wp (cf:=cf190) rfl rfl rfl h
theorem st191{lo:Nat}{H:Heap}{R:Value→Heap→Prop}{a0 a1:Value}(h:wpS cp lo bd191 (bodyQ cf191 R) [a0,a1,undef,undef,undef,undef,undef] H):Ev cp lo 191 [a0,a1] H R:=ev_of_wp (cf:=cf191) rfl rfl rfl h
theorem st192{lo:Nat}{H:Heap}{R:Value→Heap→Prop}{a0 a1:Value}(h:wpS cp lo bd192 (bodyQ cf192 R) [a0,a1,undef,undef,undef,undef,undef] H):Ev cp lo 192 [a0,a1] H R:=ev_of_wp (cf:=cf192) rfl rfl rfl h
theorem st193{lo:Nat}{H:Heap}{R:Value→Heap→Prop}{a0 a1 a2:Value}(h:wpS cp lo bd193 (bodyQ cf193 R) [a0,a1,a2,undef,undef] H):Ev cp lo 193 [a0,a1,a2] H R:=ev_of_wp (cf:=cf193) rfl rfl rfl h
theorem st204{lo:Nat}{H:Heap}{R:Value→Heap→Prop}{a0:Value}(h:wpS cp lo bd204 (bodyQ cf204 R) [a0,undef] H):Ev cp lo 204 [a0] H R:=ev_of_wp (cf:=cf204) rfl rfl rfl h
end Go.Proofs.YtmnlgdpdgjbfgaaGreat
