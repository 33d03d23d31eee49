/- The functions of this seat as the abstract machine has them (printed by a program), and that its compiler makes them of the given program. -/
import Derived.Test.YtmnlgdpdgjbfgaaGreatC8
import Derived.Test.YtmnlgdpdgjbfgaaGreatProg
import Derived.KernelRfl
set_option linter.unusedVariables false
set_option linter.unusedSimpArgs false
set_option linter.unusedSectionVars false
namespace Go.Proofs.YtmnlgdpdgjbfgaaGreat
open Go.Abs
def lit0:ByteArray:=⟨#[0,1,2,2,3,3,3,3,4,4,4,4,4,4,4,4,5,5,5,5,5,5,5,5,5,5,5,5,5,5,5,5,6,6,6,6,6,6,6,6,6,6,6,6,6,6,6,6,6,6,6,6,6,6,6,6,6,6,6,6,6,6,6,6,7,7,7,7,7,7,7,7,7,7,7,7,7,7,7,7,7,7,7,7,7,7,7,7,7,7,7,7,7,7,7,7,7,7,7,7,7,7,7,7,7,7,7,7,7,7,7,7,7,7,7,7,7,7,7,7,7,7,7,7,7,7,7,7,8,8,8,8,8,8,8,8,8,8,8,8,8,8,8,8,8,8,8,8,8,8,8,8,8,8,8,8,8,8,8,8,8,8,8,8,8,8,8,8,8,8,8,8,8,8,8,8,8,8,8,8,8,8,8,8,8,8,8,8,8,8,8,8,8,8,8,8,8,8,8,8,8,8,8,8,8,8,8,8,8,8,8,8,8,8,8,8,8,8,8,8,8,8,8,8,8,8,8,8,8,8,8,8,8,8,8,8,8,8,8,8,8,8,8,8,8,8,8,8,8,8,8,8,8,8,8,8]⟩
def lit1:ByteArray:=⟨#[116,104,101,32,114,101,115,117,108,116,32,111,102,32,40,108,101,110,40,120,41,32,42,32,99,111,117,110,116,41,32,111,118,101,114,102,108,111,119,115]⟩
namespace K
def x(n:Nat):E:=.var n
def i(n:Int):E:=.cst (.int .i64 n)
def c(a b:E):E:=.cons a b
def c1(a:E):E:=.cons a .nil
def c2(a b:E):E:=.cons a (.cons b .nil)
def c3(a b c:E):E:=.cons a (.cons b (.cons c .nil))
def n1(o:LOp)(a:E):E:=.node o (.cons a .nil)
def n2(o:LOp)(a b:E):E:=.node o (.cons a (.cons b .nil))
def b(o:BinOp)(a b:E):E:=.node (.bin o) (.cons a (.cons b .nil))
def ld(a:E):E:=.node (.ld 1 false) (.cons a .nil)
def fa(n:Nat)(a:E):E:=.node (.fAddr n) (.cons a .nil)
def ix(n:Nat)(a:E):E:=.node (.ext n) (.cons a .nil)
def p(a b c:E):E:=.pick a b c
def h(d:Nat)(o:HOp)(a:E):Stm:=.hv [] [] [] (some d) o a
def cl(d f:Nat)(a:E):Stm:=.hv [] [] [] (some d) (.call false) (.cons (.cst (.func (.func f) #[] #[])) a)
def s(l:List (Nat×E)):Stm:=.sets l []
def q(a b:Stm):Stm:=.seq a b
end K
set_option linter.defProp false in
def kB:=And.intro @K.x.eq_1 (And.intro @K.i.eq_1 (And.intro @K.c.eq_1 (And.intro @K.c1.eq_1 (And.intro @K.c2.eq_1 (And.intro @K.c3.eq_1 (And.intro @K.n1.eq_1 (And.intro @K.n2.eq_1 (And.intro @K.b.eq_1 (And.intro @K.ld.eq_1 (And.intro @K.fa.eq_1 (And.intro @K.ix.eq_1 (And.intro @K.p.eq_1 (And.intro @K.h.eq_1 (And.intro @K.cl.eq_1 (And.intro @K.s.eq_1 @K.q.eq_1)))))))))))))))
section
open K
def bd8:Stm:=
 q (s [(4,.cst (.bool false))]) (q (q (cl 19 23 (c1 (x 0))) (q (h 5 (.alloc [.int .i64 0,.int .i64 0,.int .i64 0,.int .i64 0,.int .i64 0,.int .i64 0,.int
 .i64 0]) .nil) (.hv [] [] [] none (.st 7) (c2 (x 5) (x 19))))) (q (q (cl 20 24 (c2 (x 1) (ld (fa 4 (x 5))))) (s [(6,x 20)])) (q (.cond (b .gtr (n1 .len (x
 2)) (i 300)) (q (q (cl 21 12 .nil) (s [(4,x 21)])) .ret) .skip) (q (q (cl 22 13 (c2 (x 6) (n1 (.ld 7 true) (x 5)))) (s [(8,ix 1 (x 22)),(7,ix 0 (x 22))]))
 (q (.cond (p (b .neq (x 8) (i 0)) (.cst (.bool true)) (b .eql (n1 .len (x 7)) (i 0))) (q (s [(4,.cst (.bool false))]) .ret) .skip) (q (s [(10,.cst (.slice
 none 0 0)),(9,.cst (.slice none 0 0))]) (q (q (h 23 (.app 1 [.int .i64 0]) (c2 (x 9) (x 7))) (s [(9,x 23)])) (q (q (s [(11,i 0)]) (.block 0 (.loop (q
 (.cond (b .lss (x 11) (ld (fa 6 (x 5)))) .skip (.exit 0)) (q (.block 1 (q (.hv [(24,x 10)] [] [] (some 25) (.bSl [.int .i64 0] 1 [0]) (c1 (i 0))) (q (h 26
 (.app 1 [.int .i64 0]) (c2 (x 24) (x 25))) (s [(10,x 26)])))) (s [(11,b .add (x 11) (i 1))])))))) (q (s [(12,i 0)]) (q (q (s [(13,i 0)]) (.block 2 (.loop
 (q (.cond (p (b .lss (x 13) (n1 .len (x 2))) (b .lss (x 13) (n1 .len (x 3))) (.cst (.bool false))) .skip (.exit 2)) (q (.block 3 (q (s [(14,b .rem (n1 (.cvt
 .i64) (ld (n2 (.iAddr 1) (x 2) (x 13)))) (n1 .len (x 9)))]) (q (s [(15,b .rem (x 14) (ld (fa 6 (x 5))))]) (q (.cond (p (p (b .neq (ld (n2 (.iAddr 1) (x 9) (x
 14))) (ld (n2 (.iAddr 1) (x 7) (x 14)))) (.cst (.bool true)) (b .eql (ld (n2 (.iAddr 1) (x 3) (x 13))) (.cst (.int .u8 0)))) (.cst (.bool true)) (b .gtr (b
 .add (b .mul (i 2) (ld (n2 (.iAddr 1) (x 10) (x 15)))) (i 2)) (b .quo (ld (fa 5 (x 5))) (ld (fa 6 (x 5)))))) (.exit 3) .skip) (q (.hv [] [] [] none (.st 1)
 (c2 (n2 (.iAddr 1) (x 9) (x 14)) (b .xor (ld (n2 (.iAddr 1) (x 9) (x 14))) (n1 (.cvt .i64) (ld (n2 (.iAddr 1) (x 3) (x 13))))))) (q (.hv [] [] [] none (.st 1)
 (c2 (n2 (.iAddr 1) (x 10) (x 15)) (b .add (ld (n2 (.iAddr 1) (x 10) (x 15))) (i 1)))) (s [(12,b .add (x 12) (i 1))]))))))) (s [(13,b .add (x 13) (i
 1))])))))) (q (q (cl 27 16 (c2 (x 9) (n1 (.ld 7 true) (x 5)))) (s [(18,ix 2 (x 27)),(17,ix 1 (x 27)),(16,ix 0 (x 27))])) (q (q (.hv [(28,p (b .eql (x
 18) (i 0)) (b .eql (x 17) (x 12)) (.cst (.bool false)))] [] [(p (b .eql (x 18) (i 0)) (b .eql (x 17) (x 12)) (.cst (.bool false)),true)] (some 29) (.call
 false) (c3 (.cst (.func (.func 15) #[] #[])) (x 16) (x 6))) (q (.hv [(30,p (x 28) (x 29) (.cst (.bool false)))] [] [(p (x 28) (x 29) (.cst (.bool false)),
 true)] (some 31) (.call false) (c1 (.cst (.func (.func 12) #[] #[])))) (s [(4,p (x 30) (x 31) (.cst (.bool false)))]))) .ret))))))))))))
def cf8:CF:=⟨4,32,[(.var 4)],bd8,.plain⟩
def tr8:List Nat:=[0,1,2,3,8,9,10,11,12,13,14,15,16,17,18,19,20,21,22,24,28,32,36,48,55,56,57,136,147,150,152,153]
def bd9:Stm:=
 q (s [(2,.cst (.bool false))]) (q (q (cl 12 23 (c1 (b .rem (x 0) (.cst (.int .u8 9))))) (q (h 3 (.alloc [.int .i64 0,.int .i64 0,.int .i64 0,.int .i64 0,
 .int .i64 0,.int .i64 0,.int .i64 0]) .nil) (.hv [] [] [] none (.st 7) (c2 (x 3) (x 12))))) (q (q (cl 13 24 (c2 (x 1) (b .add (ld (fa 4 (x 3))) (ld (fa 5 (x
 3)))))) (s [(4,x 13)])) (q (q (cl 14 16 (c2 (x 4) (n1 (.ld 7 true) (x 3)))) (s [(7,ix 2 (x 14)),(6,ix 1 (x 14)),(5,ix 0 (x 14))])) (q (.cond (b .neq (x
 7) (i 0)) (q (q (.hv [(15,p (p (b .eql (x 7) (i 17)) (b .eql (n1 .len (x 5)) (i 0)) (.cst (.bool false))) (b .eql (x 6) (i 0)) (.cst (.bool false)))] [] [(p
 (p (b .eql (x 7) (i 17)) (b .eql (n1 .len (x 5)) (i 0)) (.cst (.bool false))) (b .eql (x 6) (i 0)) (.cst (.bool false)),true)] (some 16) (.call false) (c1
 (.cst (.func (.func 12) #[] #[])))) (s [(2,p (x 15) (x 16) (.cst (.bool false)))])) .ret) .skip) (q (q (cl 17 13 (c2 (x 5) (n1 (.ld 7 true) (x 3)))) (s [(9,
 ix 1 (x 17)),(8,ix 0 (x 17))])) (q (.cond (p (b .neq (x 9) (i 0)) (.cst (.bool true)) (b .neq (n1 .len (x 8)) (n1 .len (x 4)))) (q (s [(2,.cst (.bool
 false))]) .ret) .skip) (q (s [(10,i 0)]) (q (q (s [(11,i 0)]) (.block 0 (.loop (q (.cond (b .lss (x 11) (n1 .len (x 4))) .skip (.exit 0)) (q (.block 1
 (.cond (b .neq (ld (n2 (.iAddr 1) (x 4) (x 11))) (ld (n2 (.iAddr 1) (x 8) (x 11)))) (s [(10,b .add (x 10) (i 1))]) .skip)) (s [(11,b .add (x 11) (i
 1))])))))) (q (q (.hv [(18,p (b .eql (x 10) (x 6)) (b .leq (b .mul (i 2) (x 10)) (ld (fa 5 (x 3)))) (.cst (.bool false)))] [] [(p (b .eql (x 10) (x 6)) (b
 .leq (b .mul (i 2) (x 10)) (ld (fa 5 (x 3)))) (.cst (.bool false)),true)] (some 19) (.call false) (c1 (.cst (.func (.func 12) #[] #[])))) (s [(2,p (x 18) (x
 19) (.cst (.bool false)))])) .ret)))))))))
def cf9:CF:=⟨2,20,[(.var 2)],bd9,.plain⟩
def tr9:List Nat:=[0,1,4,5,6,7,8,9,10,11,12,13,16,23,27,44,45,50,89,90]
def bd11:Stm:=
 q (s [(4,.cst (.bool false))]) (q (q (cl 15 23 (c1 (x 0))) (q (h 5 (.alloc [.int .i64 0,.int .i64 0,.int .i64 0,.int .i64 0,.int .i64 0,.int .i64 0,.int
 .i64 0]) .nil) (.hv [] [] [] none (.st 7) (c2 (x 5) (x 15))))) (q (q (cl 16 24 (c2 (x 1) (ld (fa 4 (x 5))))) (s [(6,x 16)])) (q (q (cl 17 13 (c2 (x 6) (n1
 (.ld 7 true) (x 5)))) (s [(8,ix 1 (x 17)),(7,ix 0 (x 17))])) (q (.cond (p (b .neq (x 8) (i 0)) (.cst (.bool true)) (b .eql (n1 .len (x 7)) (i 0))) (q (s
 [(4,.cst (.bool false))]) .ret) .skip) (q (s [(9,b .mul (ld (fa 6 (x 5))) (b .quo (b .quo (ld (fa 5 (x 5))) (ld (fa 6 (x 5)))) (i 2)))]) (q (s [(10,b .rem
 (n1 (.cvt .i64) (x 2)) (n1 .len (x 7)))]) (q (s [(11,.cst (.slice none 0 0))]) (q (q (h 18 (.app 1 [.int .i64 0]) (c2 (x 11) (x 7))) (s [(11,x 18)])) (q (q
 (s [(12,x 10)]) (.block 0 (.loop (q (.cond (p (b .lss (x 12) (b .add (x 10) (x 9))) (b .lss (x 12) (n1 .len (x 11))) (.cst (.bool false))) .skip (.exit 0))
 (q (.block 1 (.hv [] [] [] none (.st 1) (c2 (n2 (.iAddr 1) (x 11) (x 12)) (b .xor (ld (n2 (.iAddr 1) (x 11) (x 12))) (n1 (.cvt .i64) (x 3)))))) (s [(12,b
 .add (x 12) (i 1))])))))) (q (q (cl 19 16 (c2 (x 11) (n1 (.ld 7 true) (x 5)))) (.sets [(14,ix 2 (x 19)),(13,ix 0 (x 19))] [ix 1 (x 19)])) (q (q (.hv [(20,
 b .eql (x 14) (i 0))] [] [(b .eql (x 14) (i 0),true)] (some 21) (.call false) (c3 (.cst (.func (.func 15) #[] #[])) (x 13) (x 6))) (q (.hv [(22,p (x 20) (x
 21) (.cst (.bool false)))] [] [(p (x 20) (x 21) (.cst (.bool false)),true)] (some 23) (.call false) (c1 (.cst (.func (.func 12) #[] #[])))) (s [(4,p (x 22)
 (x 23) (.cst (.bool false)))]))) .ret)))))))))))
def cf11:CF:=⟨4,24,[(.var 4)],bd11,.plain⟩
def tr11:List Nat:=[0,1,2,3,8,9,10,11,12,13,14,15,16,17,19,21,25,29,55,83,89,92,94,95]
def bd12:Stm:=
 q (s [(0,.cst (.bool false))]) (q (q (.hv [(14,.node (.build [.int .i64 0,.int .i64 0,.int .i64 0,.int .i64 0,.int .i64 0,.int .i64 0,.int .i64 0] [(0,
 1),(1,1),(2,1),(3,1),(4,1),(5,1),(6,1)]) (c (i 10) (c (i 10) (c (i 8) (c (i 8) (c3 (i 3) (i 5) (i 1)))))))] [] [] (some 1) (.alloc [.int .i64 0,
 .int .i64 0,.int .i64 0,.int .i64 0,.int .i64 0,.int .i64 0,.int .i64 0]) .nil) (.hv [] [] [] none (.st 7) (c2 (x 1) (x 14)))) (q (q (h 15 (.bSl [.int
 .i64 0] 3 [0,1,2]) (c3 (i 142) (i 164) (i 186))) (q (cl 16 13 (c2 (x 15) (n1 (.ld 7 true) (x 1)))) (s [(3,ix 1 (x 16)),(2,ix 0 (x 16))]))) (q (q (.hv
 [(18,p (b .neq (x 3) (i 0)) (.cst (.tuple #[])) (x 2)),(17,b .neq (x 3) (i 0))] [] [(b .neq (x 3) (i 0),false)] (some 19) (.bSl [.int .i64 0] 8 [0,1,2,
 3,4,5,6,7]) (c (i 142) (c (i 164) (c (i 186) (c (i 114) (c (i 25) (c3 (i 5) (i 88) (i 102)))))))) (q (.hv [] [] [(x 17,false)] (some 20) (.call false)
 (c3 (.cst (.func (.func 15) #[] #[])) (x 18) (x 19))) (.cond (p (x 17) (.cst (.bool true)) (n1 (.un .not) (x 20))) (q (s [(0,.cst (.bool false))]) .ret)
 .skip))) (q (.hv [] [] [] none (.st 1) (c2 (n2 (.iAddr 1) (x 2) (i 1)) (i 0))) (q (.hv [] [] [] none (.st 1) (c2 (n2 (.iAddr 1) (x 2) (i 7)) (i 0))) (q (q (cl
 21 16 (c2 (x 2) (n1 (.ld 7 true) (x 1)))) (s [(6,ix 2 (x 21)),(5,ix 1 (x 21)),(4,ix 0 (x 21))])) (q (q (h 22 (.bSl [.int .u8 0] 6 [0,1,2,3,4,5]) (c
 (.cst (.int .u8 49)) (c (.cst (.int .u8 50)) (c (.cst (.int .u8 51)) (c3 (.cst (.int .u8 52)) (.cst (.int .u8 53)) (.cst (.int .u8 54))))))) (q (h 23 .frz (c1
 (x 22))) (q (cl 24 18 (c2 (x 23) (.cst (.bool true)))) (q (.hv [(26,ix 1 (x 24)),(25,ix 0 (x 24))] [] [] (some 7) (.alloc [.int .i64 0,.int .i64 0,.slice
 none 0 0]) .nil) (q (.hv [] [] [] none (.st 3) (c2 (x 7) (x 25))) (s [(8,x 26)])))))) (q (q (cl 27 21 (c1 (n1 (.ld 3 true) (x 7)))) (s [(11,ix 2 (x 27)),
 (10,ix 1 (x 27)),(9,ix 0 (x 27))])) (q (q (cl 28 18 (c2 (.cst (.slice none 0 0)) (.cst (.bool false)))) (q (.hv [(30,ix 1 (x 28)),(29,ix 0 (x 28))] []
 [] (some 12) (.alloc [.int .i64 0,.int .i64 0,.slice none 0 0]) .nil) (q (.hv [] [] [] none (.st 3) (c2 (x 12) (x 29))) (s [(13,x 30)])))) (q (q (.hv [(32,
 p (p (b .eql (x 6) (i 0)) (b .eql (x 5) (i 2)) (.cst (.bool false))) (x 4) (.cst (.tuple #[]))),(31,p (b .eql (x 6) (i 0)) (b .eql (x 5) (i 2)) (.cst (.bool
 false)))] [] [(p (b .eql (x 6) (i 0)) (b .eql (x 5) (i 2)) (.cst (.bool false)),true)] (some 33) (.bSl [.int .i64 0] 3 [0,1,2]) (c3 (i 142) (i 164) (i
 186))) (q (.hv [] [] [(x 31,true)] (some 34) (.call false) (c3 (.cst (.func (.func 15) #[] #[])) (x 32) (x 33))) (s [(0,p (p (p (p (p (p (p (p (p (p (x 31)
 (x 34) (.cst (.bool false))) (b .eql (x 8) (i 0)) (.cst (.bool false))) (b .eql (ld (fa 0 (x 7))) (i 10)) (.cst (.bool false))) (b .eql (ld (fa 1 (x 7))) (i
 10)) (.cst (.bool false))) (b .eql (x 11) (i 0)) (.cst (.bool false))) (b .eql (x 10) (i 0)) (.cst (.bool false))) (b .eql (n1 .b2s (x 9)) (.cst (.string ⟨
 #[49,50,51,52,53,54] ⟩))) (.cst (.bool false))) (b .eql (x 13) (i 0)) (.cst (.bool false))) (b .eql (ld (fa 0 (x 12))) (i 10)) (.cst (.bool false))) (b
 .eql (ld (fa 1 (x 12))) (i 10)) (.cst (.bool false)))]))) .ret))))))))))
def cf12:CF:=⟨0,35,[(.var 0)],bd12,.plain⟩
def tr12:List Nat:=[0,1,2,3,4,5,6,7,8,9,10,11,12,13,14,16,18,23,24,25,26,36,41,42,43,44,45,48,53,54,55,62,63,64,65]
def bd13:Stm:=
 q (q (h 2 .box (c1 (x 1))) (s [(4,i 0),(3,.cst (.slice none 0 0))])) (q (q (q (cl 14 27 (c3 (x 0) (n1 (.ld 7 true) (x 2)) (ld (fa 4 (x 2))))) (s [(5,x
 14)])) (.cond (b .neq (x 5) (i 0)) (q (s [(4,x 5),(3,.cst (.slice none 0 0))]) .ret) .skip)) (q (q (cl 15 28 (c1 (n1 (.ld 7 true) (x 2)))) (q (.hv [(17,ix
 1 (x 15)),(16,ix 0 (x 15))] [] [] (some 6) (.alloc [.int .i64 0,.int .i64 0,.int .i64 0,.int .i64 0,.int .i64 0]) .nil) (q (.hv [] [] [] none (.st 5)
 (c2 (x 6) (x 16))) (s [(7,x 17)])))) (q (.cond (b .neq (x 7) (i 0)) (q (s [(4,x 7),(3,.cst (.slice none 0 0))]) .ret) .skip) (q (q (h 18 (.mkSl [.int .i64
 0]) (c2 (b .add (ld (fa 4 (x 2))) (ld (fa 5 (x 2)))) (b .add (ld (fa 4 (x 2))) (ld (fa 5 (x 2)))))) (s [(8,x 18)])) (q (q (s [(20,i 0),(19,ld (fa 6 (x
 2)))]) (.block 0 (.loop (q (.cond (b .lss (x 20) (x 19)) .skip (.exit 0)) (q (.block 1 (q (s [(9,x 20)]) (q (q (.hv [(21,n1 (.ld 5 true) (x 6))] [] [] (some
 22) (.call true) (c (.cst (.func (.func 30) #[] #[])) (c3 (x 0) (ld (fa 6 (x 2))) (x 9)))) (q (h 23 .callC (c3 (.cst (.func (.func 29) #[] #[])) (x 21) (x
 22))) (s [(11,ix 1 (x 23)),(10,ix 0 (x 23))]))) (q (.cond (b .neq (x 11) (i 0)) (q (s [(4,x 11),(3,.cst (.slice none 0 0))]) .ret) .skip) (q (s [(26,i
 0),(25,n1 .len (x 10)),(24,x 10)]) (.block 2 (.loop (q (.cond (b .lss (x 26) (x 25)) .skip (.exit 2)) (q (.block 3 (q (s [(13,ld (n2 (.iAddr 1) (x 24) (x
 26))),(12,x 26)]) (.hv [] [] [] none (.st 1) (c2 (n2 (.iAddr 1) (x 8) (b .add (x 9) (b .mul (x 12) (ld (fa 6 (x 2)))))) (x 13))))) (s [(26,b .add (x 26) (i
 1))])))))))))) (s [(20,b .add (x 20) (i 1))])))))) (q (s [(4,i 0),(3,x 8)]) .ret))))))
def cf13:CF:=⟨2,27,[(.var 3),(.var 4)],bd13,.plain⟩
def tr13:List Nat:=[0,1,3,4,5,6,7,8,9,10,11,12,13,14,19,25,26,27,36,38,39,43,48,49,55,56,57]
def bd15:Stm:=
 q (s [(2,.cst (.bool false))]) (q (.cond (b .neq (n1 .len (x 0)) (n1 .len (x 1))) (q (s [(2,.cst (.bool false))]) .ret) .skip) (q (q (s [(3,i 0)]) (.block 0
 (.loop (q (.cond (b .lss (x 3) (n1 .len (x 0))) .skip (.exit 0)) (q (.block 1 (.cond (b .neq (ld (n2 (.iAddr 1) (x 0) (x 3))) (ld (n2 (.iAddr 1) (x 1) (x
 3)))) (q (s [(2,.cst (.bool false))]) .ret) .skip)) (s [(3,b .add (x 3) (i 1))])))))) (q (s [(2,.cst (.bool true))]) .ret)))
def cf15:CF:=⟨2,4,[(.var 2)],bd15,.plain⟩
def tr15:List Nat:=[0,1,4,5]
def bd16:Stm:=
 q (q (h 2 .box (c1 (x 1))) (s [(5,i 0),(4,i 0),(3,.cst (.slice none 0 0))])) (.scope (q (q (q (cl 17 27 (c3 (x 0) (n1 (.ld 7 true) (x 2)) (b .add (ld (fa 4
 (x 2))) (ld (fa 5 (x 2)))))) (s [(6,x 17)])) (.cond (b .neq (x 6) (i 0)) (q (s [(5,x 6),(4,i 0),(3,.cst (.slice none 0 0))]) .ret) .skip)) (q (q (cl 18
 28 (c1 (n1 (.ld 7 true) (x 2)))) (q (.hv [(20,ix 1 (x 18)),(19,ix 0 (x 18))] [] [] (some 7) (.alloc [.int .i64 0,.int .i64 0,.int .i64 0,.int .i64 0,
 .int .i64 0]) .nil) (q (.hv [] [] [] none (.st 5) (c2 (x 7) (x 19))) (s [(8,x 20)])))) (q (.cond (b .neq (x 8) (i 0)) (q (s [(5,x 8),(4,i 0),(3,.cst
 (.slice none 0 0))]) .ret) .skip) (q (q (h 21 (.mkSl [.int .i64 0]) (c2 (ld (fa 4 (x 2))) (ld (fa 4 (x 2))))) (s [(9,x 21)])) (q (s [(10,i 0)]) (q .skip (q
 (q (s [(23,i 0),(22,ld (fa 6 (x 2)))]) (.block 0 (.loop (q (.cond (b .lss (x 23) (x 22)) .skip (.exit 0)) (q (.block 1 (q (s [(11,x 23)]) (q (q (.hv [(24,
 n1 (.ld 5 true) (x 7))] [] [] (some 25) (.call true) (c (.cst (.func (.func 30) #[] #[])) (c3 (x 0) (ld (fa 6 (x 2))) (x 11)))) (q (h 26 .callC (c (.cst
 (.func (.func 36) #[] #[])) (c3 (x 24) (x 25) (.cst (.slice none 0 0))))) (q (.hv [(28,ix 1 (x 26)),(27,ix 0 (x 26))] [] [] (some 12) (.alloc [.slice none
 0 0,.slice none 0 0]) .nil) (q (.hv [] [] [] none (.st 2) (c2 (x 12) (x 27))) (s [(13,x 28)]))))) (q (.cond (b .neq (x 13) (i 0)) (q (s [(5,i 17),(4,i
 0),(3,.cst (.slice none 0 0))]) .ret) .skip) (q (s [(10,b .add (x 10) (n1 .len (ld (fa 1 (x 12)))))]) (q (s [(31,i 0),(30,n1 .len (ld (fa 0 (x 12)))),
 (29,ld (fa 0 (x 12)))]) (.block 2 (.loop (q (.cond (b .lss (x 31) (x 30)) .skip (.exit 2)) (q (.block 3 (q (s [(15,ld (n2 (.iAddr 1) (x 29) (x 31))),(14,x
 31)]) (q (s [(16,b .add (x 11) (b .mul (x 14) (ld (fa 6 (x 2)))))]) (q (.cond (b .geq (x 16) (ld (fa 4 (x 2)))) (.exit 1) .skip) (.hv [] [] [] none (.st 1)
 (c2 (n2 (.iAddr 1) (x 9) (x 16)) (x 15))))))) (s [(31,b .add (x 31) (i 1))]))))))))))) (s [(23,b .add (x 23) (i 1))])))))) (q (s [(5,i 0),(4,x 10),(3,x
 9)]) .ret)))))))) (.alt 0 (q .skip (q (q (s [(23,i 0),(22,ld (fa 6 (x 2)))]) (.block 0 (.loop (q (.cond (b .lss (x 23) (x 22)) .skip (.exit 0)) (q (.block
 1 (q (s [(11,x 23)]) (q (q (.hv [(24,n1 (.ld 5 true) (x 7))] [] [] (some 25) (.call true) (c (.cst (.func (.func 30) #[] #[])) (c3 (x 0) (ld (fa 6 (x 2)))
 (x 11)))) (q (h 26 .callC (c (.cst (.func (.func 36) #[] #[])) (c3 (x 24) (x 25) (.cst (.slice none 0 0))))) (q (.hv [(28,ix 1 (x 26)),(27,ix 0 (x 26))] []
 [] (some 12) (.alloc [.slice none 0 0,.slice none 0 0]) .nil) (q (.hv [] [] [] none (.st 2) (c2 (x 12) (x 27))) (s [(13,x 28)]))))) (q (.cond (b .neq (x 13)
 (i 0)) (q (s [(5,i 17),(4,i 0),(3,.cst (.slice none 0 0))]) .ret) .skip) (q (s [(10,b .add (x 10) (n1 .len (ld (fa 1 (x 12)))))]) (q (s [(31,i 0),(30,
 n1 .len (ld (fa 0 (x 12)))),(29,ld (fa 0 (x 12)))]) (.block 2 (.loop (q (.cond (b .lss (x 31) (x 30)) .skip (.exit 2)) (q (.block 3 (q (s [(15,ld (n2
 (.iAddr 1) (x 29) (x 31))),(14,x 31)]) (q (s [(16,b .add (x 11) (b .mul (x 14) (ld (fa 6 (x 2)))))]) (q (.cond (b .geq (x 16) (ld (fa 4 (x 2)))) (.exit 1)
 .skip) (.hv [] [] [] none (.st 1) (c2 (n2 (.iAddr 1) (x 9) (x 16)) (x 15))))))) (s [(31,b .add (x 31) (i 1))]))))))))))) (s [(23,b .add (x 23) (i 1))]))))))
 (q (s [(5,i 0),(4,x 10),(3,x 9)]) .ret))) (.cond .nil .skip .skip)))
def cf16:CF:=⟨2,32,[(.var 3),(.var 4),(.var 5)],bd16,.plain⟩
def tr16:List Nat:=[0,1,3,4,5,6,7,8,9,10,11,12,13,14,15,16,17,25,31,32,33,39,41,42,46,51,52,53,54,63,64,65]
def bd18:Stm:=
 q (q (h 2 (.alloc [.int .i64 0,.int .i64 0,.slice none 0 0]) .nil) (s [(3,i 0)])) (q (q (cl 9 38 (c1 (x 0))) (s [(5,ix 1 (x 9)),(4,ix 0 (x 9))])) (q
 (.cond (b .neq (x 5) (i 0)) (q (q (.hv [(10,x 5)] [] [] none (.st 3) (c2 (x 2) (.node (.build [.int .i64 0,.int .i64 0,.slice none 0 0] []) .nil))) (s [(3,
 x 10)])) .ret) .skip) (q (q (cl 11 39 (c2 (n2 (.minmax true) (n1 .len (x 4)) (i 1)) (x 1))) (q (.hv [(13,ix 1 (x 11)),(12,ix 0 (x 11))] [] [] (some 6)
 (.alloc [.int .i64 0,.int .i64 0,.int .i64 0,.int .i64 0,.int .i64 0,.int .i64 0,.int .i64 0]) .nil) (q (.hv [] [] [] none (.st 7) (c2 (x 6) (x 12))) (s
 [(5,x 13)])))) (q (.cond (b .neq (x 5) (i 0)) (q (q (.hv [(14,x 5)] [] [] none (.st 3) (c2 (x 2) (.node (.build [.int .i64 0,.int .i64 0,.slice none 0 0]
 []) .nil))) (s [(3,x 14)])) .ret) .skip) (q (q (cl 15 40 (c2 (x 4) (ld (fa 4 (x 6))))) (s [(5,ix 1 (x 15)),(7,ix 0 (x 15))])) (q (.cond (b .neq (x 5) (i
 0)) (q (q (.hv [(16,x 5)] [] [] none (.st 3) (c2 (x 2) (.node (.build [.int .i64 0,.int .i64 0,.slice none 0 0] []) .nil))) (s [(3,x 16)])) .ret) .skip)
 (q (q (cl 17 13 (c2 (x 7) (n1 (.ld 7 true) (x 6)))) (s [(5,ix 1 (x 17)),(8,ix 0 (x 17))])) (q (.cond (b .neq (x 5) (i 0)) (q (q (.hv [(18,x 5)] [] [] none
 (.st 3) (c2 (x 2) (.node (.build [.int .i64 0,.int .i64 0,.slice none 0 0] []) .nil))) (s [(3,x 18)])) .ret) .skip) (q (q (cl 19 41 (c2 (x 8) (n1 (.ld 7
 true) (x 6)))) (q (.hv [(20,ix 1 (x 19))] [] [] none (.st 3) (c2 (x 2) (ix 0 (x 19)))) (s [(3,x 20)]))) .ret)))))))))
def cf18:CF:=⟨2,21,[(.node (.ld 3 true) (.cons (.var 2) .nil)),(.var 3)],bd18,.plain⟩
def tr18:List Nat:=[0,1,4,5,6,7,8,9,10,13,19,25,26,27,31,36,42,46,52,55,57]
def bd21:Stm:=
 q (q (h 1 .box (c1 (x 0))) (s [(4,i 0),(3,i 0),(2,.cst (.slice none 0 0))])) (q (q (cl 11 45 (c1 (n1 (.ld 3 true) (x 1)))) (q (.hv [(14,ix 2 (x 11)),(13,
 ix 1 (x 11)),(12,ix 0 (x 11))] [] [] (some 6) (.alloc [.int .i64 0,.int .i64 0,.int .i64 0,.int .i64 0,.int .i64 0,.int .i64 0,.int .i64 0]) .nil) (q
 (.hv [(5,x 12)] [] [] none (.st 7) (c2 (x 6) (x 13))) (s [(7,x 14)])))) (q (.cond (b .neq (x 7) (i 0)) (q (s [(4,x 7),(3,i 0),(2,.cst (.slice none 0
 0))]) .ret) .skip) (q (q (cl 15 16 (c2 (x 5) (n1 (.ld 7 true) (x 6)))) (s [(7,ix 2 (x 15)),(9,ix 1 (x 15)),(8,ix 0 (x 15))])) (q (.cond (b .neq (x 7) (i
 0)) (q (s [(4,x 7),(3,i 0),(2,.cst (.slice none 0 0))]) .ret) .skip) (q (q (cl 16 46 (c1 (x 8))) (s [(7,ix 1 (x 16)),(10,ix 0 (x 16))])) (q (.cond (b
 .neq (x 7) (i 0)) (q (s [(4,x 7),(3,i 0),(2,.cst (.slice none 0 0))]) .ret) .skip) (q (s [(4,i 0),(3,x 9),(2,x 10)]) .ret)))))))
def cf21:CF:=⟨1,17,[(.var 2),(.var 3),(.var 4)],bd21,.plain⟩
def tr21:List Nat:=[0,1,2,3,4,5,6,7,8,9,10,13,14,15,16,23,32]
def bd23:Stm:=
 q (h 1 (.alloc [.int .i64 0,.int .i64 0,.int .i64 0,.int .i64 0,.int .i64 0,.int .i64 0,.int .i64 0]) .nil) (q (q (cl 3 26 .nil) (s [(2,x 3)])) (q (.cond
 (b .eql (n1 .len (x 2)) (i 0)) (q (.hv [] [] [] none (.st 7) (c2 (x 1) (n1 (.build [.int .i64 0,.int .i64 0,.int .i64 0,.int .i64 0,.int .i64 0,.int .i64
 0,.int .i64 0] [(6,1)]) (i 1)))) .ret) .skip) (q (.hv [] [] [] none (.st 7) (c2 (x 1) (n1 (.ld 7 true) (n2 (.iAddr 7) (x 2) (b .rem (n1 (.cvt .i64) (x 0))
 (n1 .len (x 2))))))) .ret)))
def cf23:CF:=⟨1,4,[(.node (.ld 7 true) (.cons (.var 1) .nil))],bd23,.plain⟩
def tr23:List Nat:=[0,2,3,4]
def bd24:Stm:=
 q (s [(2,.cst (.slice none 0 0))]) (q (s [(3,.cst (.slice none 0 0))]) (q (q (s [(4,i 0)]) (.block 0 (.loop (q (.cond (b .lss (x 4) (x 1)) .skip (.exit 0))
 (q (.block 1 (q (s [(5,i 0)]) (q (.cond (b .gtr (n1 .len (x 0)) (i 0)) (s [(5,b .xor (n1 (.cvt .i64) (ld (n2 (.iAddr 1) (x 0) (b .rem (x 4) (n1 .len (x
 0)))))) (b .rem (b .quo (x 4) (n1 .len (x 0))) (i 256)))]) .skip) (q (.hv [(6,x 3)] [] [] (some 7) (.bSl [.int .i64 0] 1 [0]) (c1 (x 5))) (q (h 8 (.app 1
 [.int .i64 0]) (c2 (x 6) (x 7))) (s [(3,x 8)])))))) (s [(4,b .add (x 4) (i 1))])))))) (q (s [(2,x 3)]) .ret)))
def cf24:CF:=⟨2,9,[(.var 2)],bd24,.plain⟩
def tr24:List Nat:=[0,1,4,5,6,7,30,32,33]
def bd26:Stm:=
 q (s [(0,.cst (.slice none 0 0))]) (q (q (h 4 (.bSl [.int .i64 0,.int .i64 0,.int .i64 0,.int .i64 0,.int .i64 0,.int .i64 0,.int .i64 0] 30 [0,1,2,3,
 4,5,6,7,8,9,10,11,12,13,14,15,16,17,18,19,20,21,22,23,24,25,26,27,28,29]) (c (.node (.build [.int .i64 0,.int .i64 0,.int .i64 0,
 .int .i64 0,.int .i64 0,.int .i64 0,.int .i64 0] [(0,1),(1,1),(2,1),(3,1),(4,1),(5,1),(6,1)]) (c (i 10) (c (i 10) (c (i 8) (c (i 8) (c3 (i 3)
 (i 5) (i 1))))))) (c (.node (.build [.int .i64 0,.int .i64 0,.int .i64 0,.int .i64 0,.int .i64 0,.int .i64 0,.int .i64 0] [(0,1),(1,1),(2,1),(3,
 1),(4,1),(5,1),(6,1)]) (c (i 12) (c (i 12) (c (i 10) (c (i 10) (c3 (i 5) (i 7) (i 1))))))) (c (.node (.build [.int .i64 0,.int .i64 0,.int .i64 0,
 .int .i64 0,.int .i64 0,.int .i64 0,.int .i64 0] [(0,1),(1,1),(2,1),(3,1),(4,1),(5,1),(6,1)]) (c (i 14) (c (i 14) (c (i 12) (c (i 12) (c3 (i
 8) (i 10) (i 1))))))) (c (.node (.build [.int .i64 0,.int .i64 0,.int .i64 0,.int .i64 0,.int .i64 0,.int .i64 0,.int .i64 0] [(0,1),(1,1),(2,1),
 (3,1),(4,1),(5,1),(6,1)]) (c (i 16) (c (i 16) (c (i 14) (c (i 14) (c3 (i 12) (i 12) (i 1))))))) (c (.node (.build [.int .i64 0,.int .i64 0,.int .i64
 0,.int .i64 0,.int .i64 0,.int .i64 0,.int .i64 0] [(0,1),(1,1),(2,1),(3,1),(4,1),(5,1),(6,1)]) (c (i 18) (c (i 18) (c (i 16) (c (i 16) (c3
 (i 18) (i 14) (i 1))))))) (c (.node (.build [.int .i64 0,.int .i64 0,.int .i64 0,.int .i64 0,.int .i64 0,.int .i64 0,.int .i64 0] [(0,1),(1,1),(2,
 1),(3,1),(4,1),(5,1),(6,1)]) (c (i 20) (c (i 20) (c (i 18) (c (i 18) (c3 (i 22) (i 18) (i 1))))))) (c (.node (.build [.int .i64 0,.int .i64 0,.int
 .i64 0,.int .i64 0,.int .i64 0,.int .i64 0,.int .i64 0] [(0,1),(1,1),(2,1),(3,1),(4,1),(5,1),(6,1)]) (c (i 22) (c (i 22) (c (i 20) (c (i 20)
 (c3 (i 30) (i 20) (i 1))))))) (c (.node (.build [.int .i64 0,.int .i64 0,.int .i64 0,.int .i64 0,.int .i64 0,.int .i64 0,.int .i64 0] [(0,1),(1,1),
 (2,1),(3,1),(4,1),(5,1),(6,1)]) (c (i 24) (c (i 24) (c (i 22) (c (i 22) (c3 (i 36) (i 24) (i 1))))))) (c (.node (.build [.int .i64 0,.int .i64 0,
 .int .i64 0,.int .i64 0,.int .i64 0,.int .i64 0,.int .i64 0] [(0,1),(1,1),(2,1),(3,1),(4,1),(5,1),(6,1)]) (c (i 26) (c (i 26) (c (i 24) (c (i
 24) (c3 (i 44) (i 28) (i 1))))))) (c (.node (.build [.int .i64 0,.int .i64 0,.int .i64 0,.int .i64 0,.int .i64 0,.int .i64 0,.int .i64 0] [(0,1),(1,
 1),(2,1),(3,1),(4,1),(5,1),(6,1)]) (c (i 32) (c (i 32) (c (i 14) (c (i 14) (c3 (i 62) (i 36) (i 1))))))) (c (.node (.build [.int .i64 0,.int .i64
 0,.int .i64 0,.int .i64 0,.int .i64 0,.int .i64 0,.int .i64 0] [(0,1),(1,1),(2,1),(3,1),(4,1),(5,1),(6,1)]) (c (i 36) (c (i 36) (c (i 16) (c
 (i 16) (c3 (i 86) (i 42) (i 1))))))) (c (.node (.build [.int .i64 0,.int .i64 0,.int .i64 0,.int .i64 0,.int .i64 0,.int .i64 0,.int .i64 0] [(0,1),
 (1,1),(2,1),(3,1),(4,1),(5,1),(6,1)]) (c (i 40) (c (i 40) (c (i 18) (c (i 18) (c3 (i 114) (i 48) (i 1))))))) (c (.node (.build [.int .i64 0,.int
 .i64 0,.int .i64 0,.int .i64 0,.int .i64 0,.int .i64 0,.int .i64 0] [(0,1),(1,1),(2,1),(3,1),(4,1),(5,1),(6,1)]) (c (i 44) (c (i 44) (c (i
 20) (c (i 20) (c3 (i 144) (i 56) (i 1))))))) (c (.node (.build [.int .i64 0,.int .i64 0,.int .i64 0,.int .i64 0,.int .i64 0,.int .i64 0,.int .i64 0]
 [(0,1),(1,1),(2,1),(3,1),(4,1),(5,1),(6,1)]) (c (i 48) (c (i 48) (c (i 22) (c (i 22) (c3 (i 174) (i 68) (i 1))))))) (c (.node (.build [.int .i64
 0,.int .i64 0,.int .i64 0,.int .i64 0,.int .i64 0,.int .i64 0,.int .i64 0] [(0,1),(1,1),(2,1),(3,1),(4,1),(5,1),(6,1)]) (c (i 52) (c (i 52)
 (c (i 24) (c (i 24) (c3 (i 204) (i 84) (i 2))))))) (c (.node (.build [.int .i64 0,.int .i64 0,.int .i64 0,.int .i64 0,.int .i64 0,.int .i64 0,.int .i64
 0] [(0,1),(1,1),(2,1),(3,1),(4,1),(5,1),(6,1)]) (c (i 64) (c (i 64) (c (i 14) (c (i 14) (c3 (i 280) (i 112) (i 2))))))) (c (.node (.build [.int
 .i64 0,.int .i64 0,.int .i64 0,.int .i64 0,.int .i64 0,.int .i64 0,.int .i64 0] [(0,1),(1,1),(2,1),(3,1),(4,1),(5,1),(6,1)]) (c (i 72) (c
 (i 72) (c (i 16) (c (i 16) (c3 (i 368) (i 144) (i 4))))))) (c (.node (.build [.int .i64 0,.int .i64 0,.int .i64 0,.int .i64 0,.int .i64 0,.int .i64 0,
 .int .i64 0] [(0,1),(1,1),(2,1),(3,1),(4,1),(5,1),(6,1)]) (c (i 80) (c (i 80) (c (i 18) (c (i 18) (c3 (i 456) (i 192) (i 4))))))) (c (.node
 (.build [.int .i64 0,.int .i64 0,.int .i64 0,.int .i64 0,.int .i64 0,.int .i64 0,.int .i64 0] [(0,1),(1,1),(2,1),(3,1),(4,1),(5,1),(6,1)])
 (c (i 88) (c (i 88) (c (i 20) (c (i 20) (c3 (i 576) (i 224) (i 4))))))) (c (.node (.build [.int .i64 0,.int .i64 0,.int .i64 0,.int .i64 0,.int .i64 0,
 .int .i64 0,.int .i64 0] [(0,1),(1,1),(2,1),(3,1),(4,1),(5,1),(6,1)]) (c (i 96) (c (i 96) (c (i 22) (c (i 22) (c3 (i 696) (i 272) (i 4))))))) (c
 (.node (.build [.int .i64 0,.int .i64 0,.int .i64 0,.int .i64 0,.int .i64 0,.int .i64 0,.int .i64 0] [(0,1),(1,1),(2,1),(3,1),(4,1),(5,1),
 (6,1)]) (c (i 104) (c (i 104) (c (i 24) (c (i 24) (c3 (i 816) (i 336) (i 6))))))) (c (.node (.build [.int .i64 0,.int .i64 0,.int .i64 0,.int .i64 0,.int
 .i64 0,.int .i64 0,.int .i64 0] [(0,1),(1,1),(2,1),(3,1),(4,1),(5,1),(6,1)]) (c (i 120) (c (i 120) (c (i 18) (c (i 18) (c3 (i 1050) (i 408) (i
 6))))))) (c (.node (.build [.int .i64 0,.int .i64 0,.int .i64 0,.int .i64 0,.int .i64 0,.int .i64 0,.int .i64 0] [(0,1),(1,1),(2,1),(3,1),(4,
 1),(5,1),(6,1)]) (c (i 132) (c (i 132) (c (i 20) (c (i 20) (c3 (i 1304) (i 496) (i 8))))))) (c (.node (.build [.int .i64 0,.int .i64 0,.int .i64 0,.int
 .i64 0,.int .i64 0,.int .i64 0,.int .i64 0] [(0,1),(1,1),(2,1),(3,1),(4,1),(5,1),(6,1)]) (c (i 144) (c (i 144) (c (i 22) (c (i 22) (c3 (i
 1558) (i 620) (i 10))))))) (c (.node (.build [.int .i64 0,.int .i64 0,.int .i64 0,.int .i64 0,.int .i64 0,.int .i64 0,.int .i64 0] [(0,1),(1,1),(2,
 1),(3,1),(4,1),(5,1),(6,1)]) (c (i 8) (c (i 18) (c (i 6) (c (i 16) (c3 (i 5) (i 7) (i 1))))))) (c (.node (.build [.int .i64 0,.int .i64 0,.int .i64
 0,.int .i64 0,.int .i64 0,.int .i64 0,.int .i64 0] [(0,1),(1,1),(2,1),(3,1),(4,1),(5,1),(6,1)]) (c (i 8) (c (i 32) (c (i 6) (c (i 14) (c3 (i
 10) (i 11) (i 1))))))) (c (.node (.build [.int .i64 0,.int .i64 0,.int .i64 0,.int .i64 0,.int .i64 0,.int .i64 0,.int .i64 0] [(0,1),(1,1),(2,1),
 (3,1),(4,1),(5,1),(6,1)]) (c (i 12) (c (i 26) (c (i 10) (c (i 24) (c3 (i 16) (i 14) (i 1))))))) (c3 (.node (.build [.int .i64 0,.int .i64 0,.int .i64
 0,.int .i64 0,.int .i64 0,.int .i64 0,.int .i64 0] [(0,1),(1,1),(2,1),(3,1),(4,1),(5,1),(6,1)]) (c (i 12) (c (i 36) (c (i 10) (c (i 16) (c3
 (i 22) (i 18) (i 1))))))) (.node (.build [.int .i64 0,.int .i64 0,.int .i64 0,.int .i64 0,.int .i64 0,.int .i64 0,.int .i64 0] [(0,1),(1,1),(2,1),
 (3,1),(4,1),(5,1),(6,1)]) (c (i 16) (c (i 36) (c (i 14) (c (i 16) (c3 (i 32) (i 24) (i 1))))))) (.node (.build [.int .i64 0,.int .i64 0,.int .i64 0,
 .int .i64 0,.int .i64 0,.int .i64 0,.int .i64 0] [(0,1),(1,1),(2,1),(3,1),(4,1),(5,1),(6,1)]) (c (i 16) (c (i 48) (c (i 14) (c (i 22) (c3 (i
 49) (i 28) (i 1)))))))))))))))))))))))))))))))))))) (s [(1,x 4)])) (q (s [(2,.cst (.slice none 0 0))]) (q (q (s [(3,i 0)]) (.block 0 (.loop (q (.cond (b
 .lss (x 3) (n1 .len (x 1))) .skip (.exit 0)) (q (.block 1 (q (.hv [(5,x 2)] [] [] (some 6) (.call false) (c2 (.cst (.func (.func 53) #[] #[])) (n1 (.ld 7
 true) (n2 (.iAddr 7) (x 1) (x 3))))) (q (h 7 (.bSl [.int .i64 0,.int .i64 0,.int .i64 0,.int .i64 0,.int .i64 0,.int .i64 0,.int .i64 0] 1 [0]) (c1 (x
 6))) (q (h 8 (.app 7 [.int .i64 0,.int .i64 0,.int .i64 0,.int .i64 0,.int .i64 0,.int .i64 0,.int .i64 0]) (c2 (x 5) (x 7))) (s [(2,x 8)]))))) (s [(3,
 b .add (x 3) (i 1))])))))) (q (s [(0,x 2)]) .ret))))
def cf26:CF:=⟨0,9,[(.var 0)],bd26,.plain⟩
def tr26:List Nat:=[0,1,2,3,34,41,46,47,48]
def bd27:Stm:=
 q (q (h 3 .box (c1 (x 1))) (s [(4,i 0)])) (q (q (.hv [(7,n1 (.ld 7 true) (x 3))] [] [] (some 6) (.call true) (c1 (.cst (.func (.func 55) #[] #[])))) (q (h 8
 .callC (c3 (.cst (.func (.func 54) #[] #[])) (x 6) (x 7))) (.cond (n1 (.un .not) (x 8)) (q (s [(4,i 14)]) .ret) .skip))) (q (.cond (b .neq (n1 .len (x 0)) (x
 2)) (q (s [(4,i 7)]) .ret) .skip) (q (q (s [(11,i 0),(10,n1 .len (x 0)),(9,x 0)]) (.block 0 (.loop (q (.cond (b .lss (x 11) (x 10)) .skip (.exit 0)) (q
 (.block 1 (q (s [(5,ld (n2 (.iAddr 1) (x 9) (x 11)))]) (.cond (p (b .lss (x 5) (i 0)) (.cst (.bool true)) (b .gtr (x 5) (i 255))) (q (s [(4,i 3)]) .ret)
 .skip))) (s [(11,b .add (x 11) (i 1))])))))) (q (s [(4,i 0)]) .ret))))
def cf27:CF:=⟨3,12,[(.var 4)],bd27,.plain⟩
def tr27:List Nat:=[0,1,2,4,6,8,9,10,11,17,18,19]
def bd28:Stm:=
 q (q (h 1 .box (c1 (x 0))) (q (h 2 (.alloc [.int .i64 0,.int .i64 0,.int .i64 0,.int .i64 0,.int .i64 0]) .nil) (s [(3,i 0)]))) (q (q (cl 6 56 (c2 (i 8) (i
 301))) (q (.hv [(8,ix 1 (x 6)),(7,ix 0 (x 6))] [] [] (some 4) (.alloc [.int .i64 0,.int .i64 0,.int .i64 0]) .nil) (q (.hv [] [] [] none (.st 3) (c2 (x
 4) (x 7))) (s [(5,x 8)])))) (q (.cond (b .neq (x 5) (i 0)) (q (q (.hv [(9,x 5)] [] [] none (.st 5) (c2 (x 2) (.node (.build [.int .i64 0,.int .i64 0,.int
 .i64 0,.int .i64 0,.int .i64 0] []) .nil))) (s [(3,x 9)])) .ret) .skip) (q (q (h 10 .callC (c (.cst (.func (.func 57) #[] #[])) (c3 (n1 (.ld 3 true) (x 4))
 (b .quo (ld (fa 5 (x 1))) (ld (fa 6 (x 1)))) (i 1)))) (q (.hv [(11,ix 1 (x 10))] [] [] none (.st 5) (c2 (x 2) (ix 0 (x 10)))) (s [(3,x 11)]))) .ret)))
def cf28:CF:=⟨1,12,[(.node (.ld 5 true) (.cons (.var 2) .nil)),(.var 3)],bd28,.plain⟩
def tr28:List Nat:=[0,1,2,3,4,5,7,8,9,13,20,22]
def bd29:Stm:=
 q (q (h 2 .box (c1 (x 0))) (s [(4,i 0),(3,.cst (.slice none 0 0))])) (q (q (cl 15 58 (c2 (n1 (.ld 5 true) (x 2)) (x 1))) (.cond (n1 (.un .not) (x 15)) (q (s
 [(4,i 1),(3,.cst (.slice none 0 0))]) .ret) .skip)) (q (q (.hv [(16,b .eql (n1 .len (x 1)) (i 0))] [] [(b .eql (n1 .len (x 1)) (i 0),false)] (some 17)
 (.call false) (c3 (.cst (.func (.func 59) #[] #[])) (n1 (.ld 5 true) (x 2)) (b .add (n1 .len (x 1)) (ld (fa 3 (x 2)))))) (.cond (p (x 16) (.cst (.bool true))
 (n1 (.un .not) (x 17))) (q (s [(4,i 7),(3,.cst (.slice none 0 0))]) .ret) .skip)) (q (q (cl 18 60 (c1 (n1 (.ld 5 true) (x 2)))) (s [(6,ix 1 (x 18)),(5,
 ix 0 (x 18))])) (q (.cond (b .neq (x 6) (i 0)) (q (s [(4,x 6),(3,.cst (.slice none 0 0))]) .ret) .skip) (q (s [(7,b .add (n1 .len (x 1)) (ld (fa 3 (x
 2))))]) (q (q (h 19 (.mkSl [.int .i64 0]) (c2 (x 7) (x 7))) (s [(8,x 19)])) (q (q (s [(22,i 0),(21,n1 .len (x 1)),(20,x 1)]) (.block 0 (.loop (q (.cond
 (b .lss (x 22) (x 21)) .skip (.exit 0)) (q (.block 1 (q (s [(10,ld (n2 (.iAddr 1) (x 20) (x 22))),(9,x 22)]) (.hv [] [] [] none (.st 1) (c2 (n2 (.iAddr 1)
 (x 8) (b .sub (b .sub (x 7) (i 1)) (x 9))) (x 10))))) (s [(22,b .add (x 22) (i 1))])))))) (q (q (.hv [(25,x 5),(23,n1 (.ld 3 true) (fa 0 (x 2)))] [] []
 (some 24) (.call true) (c2 (.cst (.func (.func 62) #[] #[])) (x 8))) (q (h 26 .callC (c (.cst (.func (.func 61) #[] #[])) (c3 (x 23) (x 24) (x 25)))) (.sets
 [(6,ix 2 (x 26)),(11,ix 1 (x 26))] [ix 0 (x 26)]))) (q (.cond (b .neq (x 6) (i 0)) (q (s [(4,x 6),(3,.cst (.slice none 0 0))]) .ret) .skip) (q (q (h 27
 (.mkSl [.int .i64 0]) (c2 (x 7) (x 7))) (s [(12,x 27)])) (q (.hv [] [] [] none (.cpy 1) (c2 (x 12) (x 1))) (q (q (s [(30,i 0),(29,n1 .len (x 11)),(28,x
 11)]) (.block 2 (.loop (q (.cond (b .lss (x 30) (x 29)) .skip (.exit 2)) (q (.block 3 (q (s [(14,ld (n2 (.iAddr 1) (x 28) (x 30))),(13,x 30)]) (q (q (.hv
 [(32,b .sub (b .sub (x 7) (i 1)) (x 13)),(31,x 12)] [] [] (some 33) (.call false) (c (.cst (.func (.func 63) #[] #[])) (c3 (n1 (.ld 3 true) (fa 0 (x 2)))
 (i 0) (x 14)))) (q (.hv [(34,ix 1 (x 33))] [] [] none (.st 1) (c2 (n2 (.iAddr 1) (x 31) (x 32)) (ix 0 (x 33)))) (s [(6,x 34)]))) (.cond (b .neq (x 6) (i 0))
 (q (s [(4,x 6),(3,.cst (.slice none 0 0))]) .ret) .skip)))) (s [(30,b .add (x 30) (i 1))])))))) (q (s [(4,i 0),(3,x 12)]) .ret)))))))))))))
def cf29:CF:=⟨2,35,[(.var 3),(.var 4)],bd29,.plain⟩
def tr29:List Nat:=[0,1,2,4,5,6,7,8,9,10,11,13,14,15,16,19,24,31,36,48,49,50,51,66,68,69,70,78,82,83,84,90,94,98,100]
def bd30:Stm:=
 q (s [(3,.cst (.slice none 0 0))]) (q (s [(4,.cst (.slice none 0 0))]) (q (q (s [(5,x 2)]) (.block 0 (.loop (q (.cond (b .lss (x 5) (n1 .len (x 0))) .skip
 (.exit 0)) (q (.block 1 (q (.hv [(6,x 4)] [] [] (some 7) (.bSl [.int .i64 0] 1 [0]) (c1 (ld (n2 (.iAddr 1) (x 0) (x 5))))) (q (h 8 (.app 1 [.int .i64 0]) (c2
 (x 6) (x 7))) (s [(4,x 8)])))) (s [(5,b .add (x 5) (x 1))])))))) (q (s [(3,x 4)]) .ret)))
def cf30:CF:=⟨3,9,[(.var 3)],bd30,.plain⟩
def tr30:List Nat:=[0,1,2,6,7,8,17,22,23]
def bd36:Stm:=
 q (q (h 3 .box (c1 (x 0))) (q (h 4 (.alloc [.slice none 0 0,.slice none 0 0]) .nil) (s [(5,i 0)]))) (q (q (cl 11 58 (c2 (n1 (.ld 5 true) (x 3)) (x 1))) (.cond
 (n1 (.un .not) (x 11)) (q (q (.hv [] [] [] none (.st 2) (c2 (x 4) (.node (.build [.slice none 0 0,.slice none 0 0] []) .nil))) (s [(5,i 1)])) .ret) .skip))
 (q (q (s [(14,i 0),(13,n1 .len (x 2)),(12,x 2)]) (.block 0 (.loop (q (.cond (b .lss (x 14) (x 13)) .skip (.exit 0)) (q (.block 1 (q (s [(6,ld (n2
 (.iAddr 1) (x 12) (x 14)))]) (.cond (p (b .lss (x 6) (i 0)) (.cst (.bool true)) (b .geq (x 6) (n1 .len (x 1)))) (q (q (.hv [] [] [] none (.st 2) (c2 (x 4)
 (.node (.build [.slice none 0 0,.slice none 0 0] []) .nil))) (s [(5,i 1)])) .ret) .skip))) (s [(14,b .add (x 14) (i 1))])))))) (q (q (cl 15 59 (c2 (n1 (.ld
 5 true) (x 3)) (n1 .len (x 1)))) (.cond (n1 (.un .not) (x 15)) (q (q (.hv [] [] [] none (.st 2) (c2 (x 4) (.node (.build [.slice none 0 0,.slice none 0 0]
 []) .nil))) (s [(5,i 7)])) .ret) .skip)) (q (q (.hv [(20,n1 .len (x 1)),(18,x 1),(17,n1 (.ld 5 true) (x 3))] [] [] (some 16) (.call true) (c2 (.cst
 (.func (.func 71) #[] #[])) (n1 (.ld 3 true) (fa 0 (x 3))))) (q (h 19 (.app 1 [.int .i64 0]) (c2 (.cst (.slice none 0 0)) (x 18))) (q (h 21 (.mkSl [.bool
 false]) (c2 (x 20) (x 20))) (q (h 22 .box (c1 (.node (.build [.int .i64 0,.int .i64 0,.slice none 0 0,.slice none 0 0,.int .i64 0,.int .i64 0,.int .i64
 0,.int .i64 0,.int .i64 0,.slice none 0 0,.slice none 0 0,.int .i64 0,.slice none 0 0,.slice none 0 0,.slice none 0 0,.slice none 0 0] [(0,4),(4,
 5),(9,1),(10,1)]) (c (x 16) (c3 (x 17) (x 19) (x 21)))))) (q (s [(7,x 22)]) (.dist (.cst (.slice none 0 0)) (x 3))))))) (q (q (s [(25,i 0),(24,n1 .len
 (x 2)),(23,x 2)]) (.block 2 (.loop (q (.cond (b .lss (x 25) (x 24)) .skip (.exit 2)) (q (.block 3 (q (s [(8,ld (n2 (.iAddr 1) (x 23) (x 25)))]) (.cond (n1
 (.un .not) (ld (n2 (.iAddr 1) (ld (fa 10 (n1 .nilChk (x 7)))) (x 8)))) (q (.hv [] [] [] none (.st 1) (c2 (n2 (.iAddr 1) (ld (fa 10 (n1 .nilChk (x 7)))) (x 8))
 (.cst (.bool true)))) (.hv [] [] [] none (.st 1) (c2 (fa 11 (n1 .nilChk (x 7))) (b .add (ld (fa 11 (n1 .nilChk (x 7)))) (i 1))))) .skip))) (s [(25,b .add (x
 25) (i 1))])))))) (q (q (cl 26 72 (c1 (x 7))) (.cond (n1 (.un .not) (x 26)) (q (q (.hv [] [] [] none (.st 2) (c2 (x 4) (.node (.build [.slice none 0 0,.slice
 none 0 0] []) .nil))) (s [(5,i 17)])) .ret) .skip)) (q (s [(9,.cst (.slice none 0 0))]) (q (q (s [(28,i 0),(27,n1 .len (x 1))]) (.block 4 (.loop (q
 (.cond (b .lss (x 28) (x 27)) .skip (.exit 4)) (q (.block 5 (q (s [(10,x 28)]) (.cond (b .neq (ld (n2 (.iAddr 1) (ld (fa 9 (n1 .nilChk (x 7)))) (x 10))) (ld
 (n2 (.iAddr 1) (x 1) (x 10)))) (q (.hv [(29,x 9)] [] [] (some 30) (.bSl [.int .i64 0] 1 [0]) (c1 (x 10))) (q (h 31 (.app 1 [.int .i64 0]) (c2 (x 29) (x 30)))
 (s [(9,x 31)]))) .skip))) (s [(28,b .add (x 28) (i 1))])))))) (q (q (.hv [] [] [] none (.st 2) (c2 (x 4) (n2 (.build [.slice none 0 0,.slice none 0 0] [(0,
 1),(1,1)]) (ld (fa 9 (n1 .nilChk (x 7)))) (x 9)))) (s [(5,i 0)])) .ret)))))))))
def cf36:CF:=⟨3,32,[(.node (.ld 2 true) (.cons (.var 4) .nil)),(.var 5)],bd36,.plain⟩
def tr36:List Nat:=[0,1,2,3,6,7,9,10,12,13,14,17,20,21,22,39,44,45,46,47,49,50,52,53,54,55,82,86,87,102,104,105]
def bd38:Stm:=
 q (s [(2,i 0),(1,.cst (.slice none 0 0))]) (q (.cond (b .gtr (n1 .len (x 0)) (i 4096)) (q (s [(2,i 4),(1,.cst (.slice none 0 0))]) .ret) .skip) (q (q (cl
 3 75 (c1 (x 0))) (q (cl 4 76 (c1 (x 3))) (s [(2,i 0),(1,x 4)]))) .ret))
def cf38:CF:=⟨1,5,[(.var 1),(.var 2)],bd38,.plain⟩
def tr38:List Nat:=[0,2,3,8,9]
def bd39:Stm:=
 q (q (h 2 (.alloc [.int .i64 0,.int .i64 0,.int .i64 0,.int .i64 0,.int .i64 0,.int .i64 0,.int .i64 0]) .nil) (s [(3,i 0)])) (q (.cond (b .lss (x 0) (i
 1)) (q (q (.hv [] [] [] none (.st 7) (c2 (x 2) (.node (.build [.int .i64 0,.int .i64 0,.int .i64 0,.int .i64 0,.int .i64 0,.int .i64 0,.int .i64 0] [])
 .nil))) (s [(3,i 3)])) .ret) .skip) (q (.cond (b .gtr (x 0) (i 1558)) (q (q (.hv [] [] [] none (.st 7) (c2 (x 2) (.node (.build [.int .i64 0,.int .i64 0,
 .int .i64 0,.int .i64 0,.int .i64 0,.int .i64 0,.int .i64 0] []) .nil))) (s [(3,i 16)])) .ret) .skip) (q (h 4 (.alloc [.int .i64 0,.int .i64 0,.int
 .i64 0,.int .i64 0,.int .i64 0,.int .i64 0,.int .i64 0]) .nil) (q (q (q (cl 6 55 .nil) (s [(8,i 0),(7,n1 .len (x 6))])) (.block 0 (.loop (q (.cond (b
 .lss (x 8) (x 7)) .skip (.exit 0)) (q (.block 1 (q (q (.hv [(9,n1 (.ld 7 true) (n2 (.iAddr 7) (x 6) (x 8)))] [] [] (some 5) (.alloc [.int .i64 0,.int .i64
 0,.int .i64 0,.int .i64 0,.int .i64 0,.int .i64 0,.int .i64 0]) .nil) (.hv [] [] [] none (.st 7) (c2 (x 5) (x 9)))) (q (.cond (p (p (x 1) (b .neq (ld (fa
 0 (x 5))) (ld (fa 1 (x 5)))) (.cst (.bool false))) (.cst (.bool true)) (b .lss (ld (fa 4 (x 5))) (x 0))) (.exit 1) .skip) (.cond (p (b .eql (ld (fa 4 (x 4)))
 (i 0)) (.cst (.bool true)) (b .lss (ld (fa 4 (x 5))) (ld (fa 4 (x 4))))) (.hv [] [] [] none (.st 7) (c2 (x 4) (n1 (.ld 7 true) (x 5)))) .skip)))) (s [(8,b
 .add (x 8) (i 1))])))))) (q (q (.hv [] [] [] none (.st 7) (c2 (x 2) (n1 (.ld 7 true) (x 4)))) (s [(3,i 0)])) .ret)))))
def cf39:CF:=⟨2,10,[(.node (.ld 7 true) (.cons (.var 2) .nil)),(.var 3)],bd39,.plain⟩
def tr39:List Nat:=[0,1,4,5,6,8,15,16,17,20]
def bd40:Stm:=
 q (s [(3,i 0),(2,.cst (.slice none 0 0))]) (q (q (s [(9,i 0),(8,n1 .len (x 0)),(7,x 0)]) (.block 0 (.loop (q (.cond (b .lss (x 9) (x 8)) .skip (.exit
 0)) (q (.block 1 (q (s [(4,ld (n2 (.iAddr 1) (x 7) (x 9)))]) (.cond (p (b .lss (x 4) (i 0)) (.cst (.bool true)) (b .gtr (x 4) (i 255))) (q (s [(3,i 3),(2,
 .cst (.slice none 0 0))]) .ret) .skip))) (s [(9,b .add (x 9) (i 1))])))))) (q (.cond (b .gtr (x 1) (i 8192)) (q (s [(3,i 4),(2,.cst (.slice none 0 0))])
 .ret) .skip) (q (.cond (b .lss (x 1) (n1 .len (x 0))) (q (s [(3,i 16),(2,.cst (.slice none 0 0))]) .ret) .skip) (q (q (h 10 (.mkSl [.int .i64 0]) (c2 (x 1)
 (x 1))) (s [(5,x 10)])) (q (.hv [] [] [] none (.cpy 1) (c2 (x 5) (x 0))) (q (q (s [(6,n1 .len (x 0))]) (.block 2 (.loop (q (.cond (b .lss (x 6) (x 1)) .skip
 (.exit 2)) (q (.block 3 (q (.hv [] [] [] none (.st 1) (c2 (n2 (.iAddr 1) (x 5) (x 6)) (i 129))) (q (.cond (b .gtr (x 6) (n1 .len (x 0))) (.hv [] [] [] none
 (.st 1) (c2 (n2 (.iAddr 1) (x 5) (x 6)) (b .add (ld (n2 (.iAddr 1) (x 5) (x 6))) (b .add (b .rem (b .mul (i 149) (b .add (x 6) (i 1))) (i 253)) (i 1)))))
 .skip) (.cond (b .gtr (ld (n2 (.iAddr 1) (x 5) (x 6))) (i 254)) (.hv [] [] [] none (.st 1) (c2 (n2 (.iAddr 1) (x 5) (x 6)) (b .sub (ld (n2 (.iAddr 1) (x 5) (x
 6))) (i 254)))) .skip)))) (s [(6,b .add (x 6) (i 1))])))))) (q (s [(3,i 0),(2,x 5)]) .ret)))))))
def cf40:CF:=⟨2,11,[(.var 2),(.var 3)],bd40,.plain⟩
def tr40:List Nat:=[0,1,4,5,7,8,9,10,11,12,30]
def bd41:Stm:=
 q (q (h 2 .box (c1 (x 1))) (q (h 3 (.alloc [.int .i64 0,.int .i64 0,.slice none 0 0]) .nil) (s [(4,i 0)]))) (q (q (.hv [(14,n1 (.ld 7 true) (x 2))] [] []
 (some 13) (.call true) (c1 (.cst (.func (.func 55) #[] #[])))) (q (h 15 .callC (c3 (.cst (.func (.func 54) #[] #[])) (x 13) (x 14))) (.cond (n1 (.un .not) (x
 15)) (q (q (.hv [] [] [] none (.st 3) (c2 (x 3) (.node (.build [.int .i64 0,.int .i64 0,.slice none 0 0] []) .nil))) (s [(4,i 14)])) .ret) .skip))) (q
 (.cond (b .neq (n1 .len (x 0)) (b .add (ld (fa 4 (x 2))) (ld (fa 5 (x 2))))) (q (q (.hv [] [] [] none (.st 3) (c2 (x 3) (.node (.build [.int .i64 0,.int .i64
 0,.slice none 0 0] []) .nil))) (s [(4,i 7)])) .ret) .skip) (q (q (s [(18,i 0),(17,n1 .len (x 0)),(16,x 0)]) (.block 0 (.loop (q (.cond (b .lss (x 18)
 (x 17)) .skip (.exit 0)) (q (.block 1 (q (s [(5,ld (n2 (.iAddr 1) (x 16) (x 18)))]) (.cond (p (b .lss (x 5) (i 0)) (.cst (.bool true)) (b .gtr (x 5) (i
 255))) (q (q (.hv [] [] [] none (.st 3) (c2 (x 3) (.node (.build [.int .i64 0,.int .i64 0,.slice none 0 0] []) .nil))) (s [(4,i 3)])) .ret) .skip))) (s
 [(18,b .add (x 18) (i 1))])))))) (q (q (cl 19 77 (c1 (n1 (.ld 7 true) (x 2)))) (s [(7,ix 1 (x 19)),(6,ix 0 (x 19))])) (q (q (cl 20 78 (c2 (x 6) (x 7))) (s
 [(8,x 20)])) (q (q (.hv [(22,ld (fa 0 (x 2))),(21,ld (fa 1 (x 2)))] [] [] (some 23) (.mkSl [.bool false]) (c2 (b .mul (ld (fa 0 (x 2))) (ld (fa 1 (x 2))))
 (b .mul (ld (fa 0 (x 2))) (ld (fa 1 (x 2)))))) (q (.hv [(24,.node (.build [.int .i64 0,.int .i64 0,.slice none 0 0] [(0,1),(1,1),(2,1)]) (c3 (x 21) (x
 22) (x 23)))] [] [] (some 9) (.alloc [.int .i64 0,.int .i64 0,.slice none 0 0]) .nil) (.hv [] [] [] none (.st 3) (c2 (x 9) (x 24))))) (q (q (s [(26,i 0),
 (25,n1 .len (ld (fa 2 (x 9))))]) (.block 2 (.loop (q (.cond (b .lss (x 26) (x 25)) .skip (.exit 2)) (q (.block 3 (q (s [(10,x 26)]) (q (q (h 27 .callC (c
 (.cst (.func (.func 79) #[] #[])) (c3 (n1 (.ld 7 true) (x 2)) (b .quo (x 10) (ld (fa 0 (x 9)))) (b .rem (x 10) (ld (fa 0 (x 9))))))) (q (h 11 (.alloc [.bool
 false,.bool false,.int .i64 0]) .nil) (.hv [] [] [] none (.st 3) (c2 (x 11) (x 27))))) (q (.cond (ld (fa 0 (x 11))) (q (.hv [] [] [] none (.st 1) (c2 (n2
 (.iAddr 1) (ld (fa 2 (x 9))) (x 10)) (ld (fa 1 (x 11))))) (.exit 3)) .skip) (q (s [(12,ld (n2 (.iAddr 1) (x 8) (ld (fa 2 (x 11)))))]) (.cond (b .geq (x 12)
 (i 0)) (.hv [] [] [] none (.st 1) (c2 (n2 (.iAddr 1) (ld (fa 2 (x 9))) (x 10)) (b .eql (b .and (b .shr (ld (n2 (.iAddr 1) (x 0) (b .quo (x 12) (i 8)))) (b
 .sub (i 7) (b .rem (x 12) (i 8)))) (i 1)) (i 1)))) (q (.hv [(29,x 10),(28,ld (fa 2 (x 9)))] [] [] (some 30) (.call true) (c (.cst (.func (.func 80) #[]
 #[])) (c3 (x 6) (x 7) (ld (fa 2 (x 11)))))) (.hv [] [] [] none (.st 1) (c2 (n2 (.iAddr 1) (x 28) (x 29)) (x 30)))))))))) (s [(26,b .add (x 26) (i 1))]))))))
 (q (q (.hv [] [] [] none (.st 3) (c2 (x 3) (n1 (.ld 3 true) (x 9)))) (s [(4,i 0)])) .ret))))))))
def cf41:CF:=⟨2,31,[(.node (.ld 3 true) (.cons (.var 3) .nil)),(.var 4)],bd41,.plain⟩
def tr41:List Nat:=[0,1,3,4,5,7,8,9,10,11,12,13,14,15,16,17,29,30,31,45,50,52,54,60,61,64,65,77,109,110,115]
def bd45:Stm:=
 q (q (h 1 .box (c1 (x 0))) (q (.hv [(2,.cst (.slice none 0 0))] [] [] (some 3) (.alloc [.int .i64 0,.int .i64 0,.int .i64 0,.int .i64 0,.int .i64 0,.int
 .i64 0,.int .i64 0]) .nil) (s [(4,i 0)]))) (q (q (cl 14 86 (c1 (n1 (.ld 3 true) (x 1)))) (.cond (n1 (.un .not) (x 14)) (q (q (.hv [(2,.cst (.slice none 0
 0))] [] [] none (.st 7) (c2 (x 3) (.node (.build [.int .i64 0,.int .i64 0,.int .i64 0,.int .i64 0,.int .i64 0,.int .i64 0,.int .i64 0] []) .nil))) (s
 [(4,i 1)])) .ret) .skip)) (q (q (cl 15 55 .nil) (s [(5,x 15)])) (q (q (cl 16 87 (c2 (x 5) (n1 (.mkF 88 0) (x 1)))) (s [(6,x 16)])) (q (.cond (b .lss (x 6)
 (i 0)) (q (q (.hv [(2,.cst (.slice none 0 0))] [] [] none (.st 7) (c2 (x 3) (.node (.build [.int .i64 0,.int .i64 0,.int .i64 0,.int .i64 0,.int .i64 0,
 .int .i64 0,.int .i64 0] []) .nil))) (s [(4,i 23)])) .ret) .skip) (q (q (.hv [(17,n1 (.ld 7 true) (n2 (.iAddr 7) (x 5) (x 6)))] [] [] (some 7) (.alloc
 [.int .i64 0,.int .i64 0,.int .i64 0,.int .i64 0,.int .i64 0,.int .i64 0,.int .i64 0]) .nil) (.hv [] [] [] none (.st 7) (c2 (x 7) (x 17)))) (q (q (cl 18
 77 (c1 (n1 (.ld 7 true) (x 7)))) (q (cl 19 78 (c2 (ix 0 (x 18)) (ix 1 (x 18)))) (s [(8,x 19)]))) (q (q (h 20 (.mkSl [.int .i64 0]) (c2 (b .add (ld (fa 4 (x
 7))) (ld (fa 5 (x 7)))) (b .add (ld (fa 4 (x 7))) (ld (fa 5 (x 7)))))) (s [(9,x 20)])) (q (q (s [(23,i 0),(22,n1 .len (ld (fa 2 (x 1)))),(21,ld (fa 2 (x
 1)))]) (.block 0 (.loop (q (.cond (b .lss (x 23) (x 22)) .skip (.exit 0)) (q (.block 1 (q (s [(11,ld (n2 (.iAddr 1) (x 21) (x 23))),(10,x 23)]) (q (q (h 24
 .callC (c (.cst (.func (.func 79) #[] #[])) (c3 (n1 (.ld 7 true) (x 7)) (b .quo (x 10) (ld (fa 0 (x 1)))) (b .rem (x 10) (ld (fa 0 (x 1))))))) (q (h 12
 (.alloc [.bool false,.bool false,.int .i64 0]) .nil) (.hv [] [] [] none (.st 3) (c2 (x 12) (x 24))))) (q (.cond (ld (fa 0 (x 12))) (q (.cond (n2 (.eqB true)
 (x 11) (ld (fa 1 (x 12)))) (q (q (.hv [(2,.cst (.slice none 0 0))] [] [] none (.st 7) (c2 (x 3) (.node (.build [.int .i64 0,.int .i64 0,.int .i64 0,.int
 .i64 0,.int .i64 0,.int .i64 0,.int .i64 0] []) .nil))) (s [(4,i 18)])) .ret) .skip) (.exit 1)) .skip) (q (s [(13,ld (n2 (.iAddr 1) (x 8) (ld (fa 2 (x
 12)))))]) (.cond (p (b .geq (x 13) (i 0)) (x 11) (.cst (.bool false))) (.hv [] [] [] none (.st 1) (c2 (n2 (.iAddr 1) (x 9) (b .quo (x 13) (i 8))) (b .or (ld
 (n2 (.iAddr 1) (x 9) (b .quo (x 13) (i 8)))) (b .shl (i 1) (b .sub (i 7) (b .rem (x 13) (i 8))))))) .skip)))))) (s [(23,b .add (x 23) (i 1))])))))) (q (q
 (.hv [(2,x 9)] [] [] none (.st 7) (c2 (x 3) (n1 (.ld 7 true) (x 7)))) (s [(4,i 0)])) .ret)))))))))
def cf45:CF:=⟨1,25,[(.var 2),(.node (.ld 7 true) (.cons (.var 3) .nil)),(.var 4)],bd45,.plain⟩
def tr45:List Nat:=[0,1,2,3,4,5,6,7,8,9,10,11,12,13,15,18,21,28,30,33,39,41,42,43,57]
def bd46:Stm:=
 q (s [(2,i 0),(1,.cst (.slice none 0 0))]) (q (q (s [(9,i 0),(8,n1 .len (x 0)),(7,x 0)]) (.block 0 (.loop (q (.cond (b .lss (x 9) (x 8)) .skip (.exit
 0)) (q (.block 1 (q (s [(3,ld (n2 (.iAddr 1) (x 7) (x 9)))]) (.cond (p (b .lss (x 3) (i 0)) (.cst (.bool true)) (b .gtr (x 3) (i 255))) (q (s [(2,i 3),(1,
 .cst (.slice none 0 0))]) .ret) .skip))) (s [(9,b .add (x 9) (i 1))])))))) (q (.cond (b .gtr (n1 .len (x 0)) (i 8192)) (q (s [(2,i 4),(1,.cst (.slice none
 0 0))]) .ret) .skip) (q (q (h 10 .box (c1 (n1 (.build [.slice none 0 0,.int .i64 0,.slice none 0 0] [(0,1)]) (x 0)))) (s [(4,x 10)])) (q (.block 2 (.loop
 (q (.cond (b .lss (ld (fa 1 (n1 .nilChk (x 4)))) (n1 .len (x 0))) .skip (.exit 2)) (.block 3 (q (s [(5,ld (n2 (.iAddr 1) (x 0) (ld (fa 1 (n1 .nilChk (x
 4))))))]) (q (.hv [] [] [] none (.st 1) (c2 (fa 1 (n1 .nilChk (x 4))) (b .add (ld (fa 1 (n1 .nilChk (x 4)))) (i 1)))) (q (.cond (b .eql (x 5) (i 129)) (.exit
 2) .skip) (q (q (cl 11 89 (c2 (x 4) (x 5))) (s [(6,x 11)])) (.cond (b .neq (x 6) (i 0)) (q (s [(2,x 6),(1,.cst (.slice none 0 0))]) .ret) .skip)))))))))
 (q (s [(2,i 0),(1,ld (fa 2 (n1 .nilChk (x 4))))]) .ret)))))
def cf46:CF:=⟨1,12,[(.var 1),(.var 2)],bd46,.plain⟩
def tr46:List Nat:=[0,2,3,5,6,7,8,9,10,11,27,53]
def bd53:Stm:=
 q (q (h 1 .box (c1 (x 0))) (h 2 (.alloc [.int .i64 0,.int .i64 0,.int .i64 0,.int .i64 0,.int .i64 0,.int .i64 0,.int .i64 0]) .nil)) (q (.hv [] [] []
 none (.st 7) (c2 (x 2) (.node (.build [.int .i64 0,.int .i64 0,.int .i64 0,.int .i64 0,.int .i64 0,.int .i64 0,.int .i64 0] [(0,1),(1,1),(2,1),(3,
 1),(4,1),(5,1),(6,1)]) (c (ld (n2 (.iAddrA 7 1) (x 1) (i 0))) (c (ld (n2 (.iAddrA 7 1) (x 1) (i 1))) (c (ld (n2 (.iAddrA 7 1) (x 1) (i 2))) (c (ld (n2
 (.iAddrA 7 1) (x 1) (i 3))) (c3 (ld (n2 (.iAddrA 7 1) (x 1) (i 4))) (ld (n2 (.iAddrA 7 1) (x 1) (i 5))) (ld (n2 (.iAddrA 7 1) (x 1) (i 6))))))))))) .ret)
def cf53:CF:=⟨1,3,[(.node (.ld 7 true) (.cons (.var 2) .nil))],bd53,.plain⟩
def tr53:List Nat:=[0,1,2]
def bd54:Stm:=
 q (q (h 2 .box (c1 (x 1))) (s [(3,.cst (.bool false))])) (q (q (cl 4 99 (c2 (x 0) (n1 (.ld 7 true) (x 2)))) (s [(3,b .geq (x 4) (i 0))])) .ret)
def cf54:CF:=⟨2,5,[(.var 3)],bd54,.plain⟩
def tr54:List Nat:=[0,1,3,4,7]
def bd55:Stm:=
 q (s [(0,.cst (.slice none 0 0))]) (q (q (.hv [(5,.node (.build [.int .i64 0,.int .i64 0,.int .i64 0,.int .i64 0,.int .i64 0,.int .i64 0,.int .i64 0,
 .int .i64 0,.int .i64 0,.int .i64 0,.int .i64 0,.int .i64 0,.int .i64 0,.int .i64 0,.int .i64 0,.int .i64 0,.int .i64 0,.int .i64 0,.int .i64 0,
 .int .i64 0,.int .i64 0,.int .i64 0,.int .i64 0,.int .i64 0,.int .i64 0,.int .i64 0,.int .i64 0,.int .i64 0,.int .i64 0,.int .i64 0,.int .i64 0,
 .int .i64 0,.int .i64 0,.int .i64 0,.int .i64 0,.int .i64 0,.int .i64 0,.int .i64 0,.int .i64 0,.int .i64 0,.int .i64 0,.int .i64 0,.int .i64 0,
 .int .i64 0,.int .i64 0,.int .i64 0,.int .i64 0,.int .i64 0,.int .i64 0,.int .i64 0,.int .i64 0,.int .i64 0,.int .i64 0,.int .i64 0,.int .i64 0,
 .int .i64 0,.int .i64 0,.int .i64 0,.int .i64 0,.int .i64 0,.int .i64 0,.int .i64 0,.int .i64 0,.int .i64 0,.int .i64 0,.int .i64 0,.int .i64 0,
 .int .i64 0,.int .i64 0,.int .i64 0,.int .i64 0,.int .i64 0,.int .i64 0,.int .i64 0,.int .i64 0,.int .i64 0,.int .i64 0,.int .i64 0,.int .i64 0,
 .int .i64 0,.int .i64 0,.int .i64 0,.int .i64 0,.int .i64 0,.int .i64 0,.int .i64 0,.int .i64 0,.int .i64 0,.int .i64 0,.int .i64 0,.int .i64 0,
 .int .i64 0,.int .i64 0,.int .i64 0,.int .i64 0,.int .i64 0,.int .i64 0,.int .i64 0,.int .i64 0,.int .i64 0,.int .i64 0,.int .i64 0,.int .i64 0,
 .int .i64 0,.int .i64 0,.int .i64 0,.int .i64 0,.int .i64 0,.int .i64 0,.int .i64 0,.int .i64 0,.int .i64 0,.int .i64 0,.int .i64 0,.int .i64 0,
 .int .i64 0,.int .i64 0,.int .i64 0,.int .i64 0,.int .i64 0,.int .i64 0,.int .i64 0,.int .i64 0,.int .i64 0,.int .i64 0,.int .i64 0,.int .i64 0,
 .int .i64 0,.int .i64 0,.int .i64 0,.int .i64 0,.int .i64 0,.int .i64 0,.int .i64 0,.int .i64 0,.int .i64 0,.int .i64 0,.int .i64 0,.int .i64 0,
 .int .i64 0,.int .i64 0,.int .i64 0,.int .i64 0,.int .i64 0,.int .i64 0,.int .i64 0,.int .i64 0,.int .i64 0,.int .i64 0,.int .i64 0,.int .i64 0,
 .int .i64 0,.int .i64 0,.int .i64 0,.int .i64 0,.int .i64 0,.int .i64 0,.int .i64 0,.int .i64 0,.int .i64 0,.int .i64 0,.int .i64 0,.int .i64 0,
 .int .i64 0,.int .i64 0,.int .i64 0,.int .i64 0,.int .i64 0,.int .i64 0,.int .i64 0,.int .i64 0,.int .i64 0,.int .i64 0,.int .i64 0,.int .i64 0,
 .int .i64 0,.int .i64 0,.int .i64 0,.int .i64 0,.int .i64 0,.int .i64 0,.int .i64 0,.int .i64 0,.int .i64 0,.int .i64 0,.int .i64 0,.int .i64 0,
 .int .i64 0,.int .i64 0,.int .i64 0,.int .i64 0,.int .i64 0,.int .i64 0,.int .i64 0,.int .i64 0,.int .i64 0,.int .i64 0,.int .i64 0,.int .i64 0,
 .int .i64 0,.int .i64 0,.int .i64 0,.int .i64 0,.int .i64 0,.int .i64 0,.int .i64 0,.int .i64 0,.int .i64 0,.int .i64 0,.int .i64 0] [(0,7),(7,
 7),(14,7),(21,7),(28,7),(35,7),(42,7),(49,7),(56,7),(63,7),(70,7),(77,7),(84,7),(91,7),(98,7),(105,7),(112,7),(119,7),(126,
 7),(133,7),(140,7),(147,7),(154,7),(161,7),(168,7),(175,7),(182,7),(189,7),(196,7),(203,7)]) (c (.node (.build [.int .i64 0,.int .i64
 0,.int .i64 0,.int .i64 0,.int .i64 0,.int .i64 0,.int .i64 0] [(0,1),(1,1),(2,1),(3,1),(4,1),(5,1),(6,1)]) (c (i 10) (c (i 10) (c (i 8) (c
 (i 8) (c3 (i 3) (i 5) (i 1))))))) (c (.node (.build [.int .i64 0,.int .i64 0,.int .i64 0,.int .i64 0,.int .i64 0,.int .i64 0,.int .i64 0] [(0,1),(1,
 1),(2,1),(3,1),(4,1),(5,1),(6,1)]) (c (i 12) (c (i 12) (c (i 10) (c (i 10) (c3 (i 5) (i 7) (i 1))))))) (c (.node (.build [.int .i64 0,.int .i64 0,
 .int .i64 0,.int .i64 0,.int .i64 0,.int .i64 0,.int .i64 0] [(0,1),(1,1),(2,1),(3,1),(4,1),(5,1),(6,1)]) (c (i 14) (c (i 14) (c (i 12) (c (i
 12) (c3 (i 8) (i 10) (i 1))))))) (c (.node (.build [.int .i64 0,.int .i64 0,.int .i64 0,.int .i64 0,.int .i64 0,.int .i64 0,.int .i64 0] [(0,1),(1,
 1),(2,1),(3,1),(4,1),(5,1),(6,1)]) (c (i 16) (c (i 16) (c (i 14) (c (i 14) (c3 (i 12) (i 12) (i 1))))))) (c (.node (.build [.int .i64 0,.int .i64
 0,.int .i64 0,.int .i64 0,.int .i64 0,.int .i64 0,.int .i64 0] [(0,1),(1,1),(2,1),(3,1),(4,1),(5,1),(6,1)]) (c (i 18) (c (i 18) (c (i 16) (c
 (i 16) (c3 (i 18) (i 14) (i 1))))))) (c (.node (.build [.int .i64 0,.int .i64 0,.int .i64 0,.int .i64 0,.int .i64 0,.int .i64 0,.int .i64 0] [(0,1),
 (1,1),(2,1),(3,1),(4,1),(5,1),(6,1)]) (c (i 20) (c (i 20) (c (i 18) (c (i 18) (c3 (i 22) (i 18) (i 1))))))) (c (.node (.build [.int .i64 0,.int
 .i64 0,.int .i64 0,.int .i64 0,.int .i64 0,.int .i64 0,.int .i64 0] [(0,1),(1,1),(2,1),(3,1),(4,1),(5,1),(6,1)]) (c (i 22) (c (i 22) (c (i
 20) (c (i 20) (c3 (i 30) (i 20) (i 1))))))) (c (.node (.build [.int .i64 0,.int .i64 0,.int .i64 0,.int .i64 0,.int .i64 0,.int .i64 0,.int .i64 0] [(0,
 1),(1,1),(2,1),(3,1),(4,1),(5,1),(6,1)]) (c (i 24) (c (i 24) (c (i 22) (c (i 22) (c3 (i 36) (i 24) (i 1))))))) (c (.node (.build [.int .i64 0,
 .int .i64 0,.int .i64 0,.int .i64 0,.int .i64 0,.int .i64 0,.int .i64 0] [(0,1),(1,1),(2,1),(3,1),(4,1),(5,1),(6,1)]) (c (i 26) (c (i 26) (c
 (i 24) (c (i 24) (c3 (i 44) (i 28) (i 1))))))) (c (.node (.build [.int .i64 0,.int .i64 0,.int .i64 0,.int .i64 0,.int .i64 0,.int .i64 0,.int .i64 0]
 [(0,1),(1,1),(2,1),(3,1),(4,1),(5,1),(6,1)]) (c (i 32) (c (i 32) (c (i 14) (c (i 14) (c3 (i 62) (i 36) (i 1))))))) (c (.node (.build [.int .i64
 0,.int .i64 0,.int .i64 0,.int .i64 0,.int .i64 0,.int .i64 0,.int .i64 0] [(0,1),(1,1),(2,1),(3,1),(4,1),(5,1),(6,1)]) (c (i 36) (c (i 36)
 (c (i 16) (c (i 16) (c3 (i 86) (i 42) (i 1))))))) (c (.node (.build [.int .i64 0,.int .i64 0,.int .i64 0,.int .i64 0,.int .i64 0,.int .i64 0,.int .i64
 0] [(0,1),(1,1),(2,1),(3,1),(4,1),(5,1),(6,1)]) (c (i 40) (c (i 40) (c (i 18) (c (i 18) (c3 (i 114) (i 48) (i 1))))))) (c (.node (.build [.int
 .i64 0,.int .i64 0,.int .i64 0,.int .i64 0,.int .i64 0,.int .i64 0,.int .i64 0] [(0,1),(1,1),(2,1),(3,1),(4,1),(5,1),(6,1)]) (c (i 44) (c
 (i 44) (c (i 20) (c (i 20) (c3 (i 144) (i 56) (i 1))))))) (c (.node (.build [.int .i64 0,.int .i64 0,.int .i64 0,.int .i64 0,.int .i64 0,.int .i64 0,
 .int .i64 0] [(0,1),(1,1),(2,1),(3,1),(4,1),(5,1),(6,1)]) (c (i 48) (c (i 48) (c (i 22) (c (i 22) (c3 (i 174) (i 68) (i 1))))))) (c (.node
 (.build [.int .i64 0,.int .i64 0,.int .i64 0,.int .i64 0,.int .i64 0,.int .i64 0,.int .i64 0] [(0,1),(1,1),(2,1),(3,1),(4,1),(5,1),(6,1)])
 (c (i 52) (c (i 52) (c (i 24) (c (i 24) (c3 (i 204) (i 84) (i 2))))))) (c (.node (.build [.int .i64 0,.int .i64 0,.int .i64 0,.int .i64 0,.int .i64 0,
 .int .i64 0,.int .i64 0] [(0,1),(1,1),(2,1),(3,1),(4,1),(5,1),(6,1)]) (c (i 64) (c (i 64) (c (i 14) (c (i 14) (c3 (i 280) (i 112) (i 2))))))) (c
 (.node (.build [.int .i64 0,.int .i64 0,.int .i64 0,.int .i64 0,.int .i64 0,.int .i64 0,.int .i64 0] [(0,1),(1,1),(2,1),(3,1),(4,1),(5,1),
 (6,1)]) (c (i 72) (c (i 72) (c (i 16) (c (i 16) (c3 (i 368) (i 144) (i 4))))))) (c (.node (.build [.int .i64 0,.int .i64 0,.int .i64 0,.int .i64 0,.int
 .i64 0,.int .i64 0,.int .i64 0] [(0,1),(1,1),(2,1),(3,1),(4,1),(5,1),(6,1)]) (c (i 80) (c (i 80) (c (i 18) (c (i 18) (c3 (i 456) (i 192) (i
 4))))))) (c (.node (.build [.int .i64 0,.int .i64 0,.int .i64 0,.int .i64 0,.int .i64 0,.int .i64 0,.int .i64 0] [(0,1),(1,1),(2,1),(3,1),(4,
 1),(5,1),(6,1)]) (c (i 88) (c (i 88) (c (i 20) (c (i 20) (c3 (i 576) (i 224) (i 4))))))) (c (.node (.build [.int .i64 0,.int .i64 0,.int .i64 0,.int
 .i64 0,.int .i64 0,.int .i64 0,.int .i64 0] [(0,1),(1,1),(2,1),(3,1),(4,1),(5,1),(6,1)]) (c (i 96) (c (i 96) (c (i 22) (c (i 22) (c3 (i 696)
 (i 272) (i 4))))))) (c (.node (.build [.int .i64 0,.int .i64 0,.int .i64 0,.int .i64 0,.int .i64 0,.int .i64 0,.int .i64 0] [(0,1),(1,1),(2,1),(3,
 1),(4,1),(5,1),(6,1)]) (c (i 104) (c (i 104) (c (i 24) (c (i 24) (c3 (i 816) (i 336) (i 6))))))) (c (.node (.build [.int .i64 0,.int .i64 0,.int .i64
 0,.int .i64 0,.int .i64 0,.int .i64 0,.int .i64 0] [(0,1),(1,1),(2,1),(3,1),(4,1),(5,1),(6,1)]) (c (i 120) (c (i 120) (c (i 18) (c (i 18) (c3
 (i 1050) (i 408) (i 6))))))) (c (.node (.build [.int .i64 0,.int .i64 0,.int .i64 0,.int .i64 0,.int .i64 0,.int .i64 0,.int .i64 0] [(0,1),(1,1),
 (2,1),(3,1),(4,1),(5,1),(6,1)]) (c (i 132) (c (i 132) (c (i 20) (c (i 20) (c3 (i 1304) (i 496) (i 8))))))) (c (.node (.build [.int .i64 0,.int .i64
 0,.int .i64 0,.int .i64 0,.int .i64 0,.int .i64 0,.int .i64 0] [(0,1),(1,1),(2,1),(3,1),(4,1),(5,1),(6,1)]) (c (i 144) (c (i 144) (c (i 22)
 (c (i 22) (c3 (i 1558) (i 620) (i 10))))))) (c (.node (.build [.int .i64 0,.int .i64 0,.int .i64 0,.int .i64 0,.int .i64 0,.int .i64 0,.int .i64 0] [(0,
 1),(1,1),(2,1),(3,1),(4,1),(5,1),(6,1)]) (c (i 8) (c (i 18) (c (i 6) (c (i 16) (c3 (i 5) (i 7) (i 1))))))) (c (.node (.build [.int .i64 0,.int
 .i64 0,.int .i64 0,.int .i64 0,.int .i64 0,.int .i64 0,.int .i64 0] [(0,1),(1,1),(2,1),(3,1),(4,1),(5,1),(6,1)]) (c (i 8) (c (i 32) (c (i 6)
 (c (i 14) (c3 (i 10) (i 11) (i 1))))))) (c (.node (.build [.int .i64 0,.int .i64 0,.int .i64 0,.int .i64 0,.int .i64 0,.int .i64 0,.int .i64 0] [(0,1),
 (1,1),(2,1),(3,1),(4,1),(5,1),(6,1)]) (c (i 12) (c (i 26) (c (i 10) (c (i 24) (c3 (i 16) (i 14) (i 1))))))) (c3 (.node (.build [.int .i64 0,.int
 .i64 0,.int .i64 0,.int .i64 0,.int .i64 0,.int .i64 0,.int .i64 0] [(0,1),(1,1),(2,1),(3,1),(4,1),(5,1),(6,1)]) (c (i 12) (c (i 36) (c (i
 10) (c (i 16) (c3 (i 22) (i 18) (i 1))))))) (.node (.build [.int .i64 0,.int .i64 0,.int .i64 0,.int .i64 0,.int .i64 0,.int .i64 0,.int .i64 0] [(0,
 1),(1,1),(2,1),(3,1),(4,1),(5,1),(6,1)]) (c (i 16) (c (i 36) (c (i 14) (c (i 16) (c3 (i 32) (i 24) (i 1))))))) (.node (.build [.int .i64 0,.int
 .i64 0,.int .i64 0,.int .i64 0,.int .i64 0,.int .i64 0,.int .i64 0] [(0,1),(1,1),(2,1),(3,1),(4,1),(5,1),(6,1)]) (c (i 16) (c (i 48) (c (i
 14) (c (i 22) (c3 (i 49) (i 28) (i 1))))))))))))))))))))))))))))))))))))] [] [] (some 1) (.alloc [.int .i64 0,.int .i64 0,.int .i64 0,.int .i64 0,.int
 .i64 0,.int .i64 0,.int .i64 0,.int .i64 0,.int .i64 0,.int .i64 0,.int .i64 0,.int .i64 0,.int .i64 0,.int .i64 0,.int .i64 0,.int .i64 0,.int
 .i64 0,.int .i64 0,.int .i64 0,.int .i64 0,.int .i64 0,.int .i64 0,.int .i64 0,.int .i64 0,.int .i64 0,.int .i64 0,.int .i64 0,.int .i64 0,.int
 .i64 0,.int .i64 0,.int .i64 0,.int .i64 0,.int .i64 0,.int .i64 0,.int .i64 0,.int .i64 0,.int .i64 0,.int .i64 0,.int .i64 0,.int .i64 0,.int
 .i64 0,.int .i64 0,.int .i64 0,.int .i64 0,.int .i64 0,.int .i64 0,.int .i64 0,.int .i64 0,.int .i64 0,.int .i64 0,.int .i64 0,.int .i64 0,.int
 .i64 0,.int .i64 0,.int .i64 0,.int .i64 0,.int .i64 0,.int .i64 0,.int .i64 0,.int .i64 0,.int .i64 0,.int .i64 0,.int .i64 0,.int .i64 0,.int
 .i64 0,.int .i64 0,.int .i64 0,.int .i64 0,.int .i64 0,.int .i64 0,.int .i64 0,.int .i64 0,.int .i64 0,.int .i64 0,.int .i64 0,.int .i64 0,.int
 .i64 0,.int .i64 0,.int .i64 0,.int .i64 0,.int .i64 0,.int .i64 0,.int .i64 0,.int .i64 0,.int .i64 0,.int .i64 0,.int .i64 0,.int .i64 0,.int
 .i64 0,.int .i64 0,.int .i64 0,.int .i64 0,.int .i64 0,.int .i64 0,.int .i64 0,.int .i64 0,.int .i64 0,.int .i64 0,.int .i64 0,.int .i64 0,.int
 .i64 0,.int .i64 0,.int .i64 0,.int .i64 0,.int .i64 0,.int .i64 0,.int .i64 0,.int .i64 0,.int .i64 0,.int .i64 0,.int .i64 0,.int .i64 0,.int
 .i64 0,.int .i64 0,.int .i64 0,.int .i64 0,.int .i64 0,.int .i64 0,.int .i64 0,.int .i64 0,.int .i64 0,.int .i64 0,.int .i64 0,.int .i64 0,.int
 .i64 0,.int .i64 0,.int .i64 0,.int .i64 0,.int .i64 0,.int .i64 0,.int .i64 0,.int .i64 0,.int .i64 0,.int .i64 0,.int .i64 0,.int .i64 0,.int
 .i64 0,.int .i64 0,.int .i64 0,.int .i64 0,.int .i64 0,.int .i64 0,.int .i64 0,.int .i64 0,.int .i64 0,.int .i64 0,.int .i64 0,.int .i64 0,.int
 .i64 0,.int .i64 0,.int .i64 0,.int .i64 0,.int .i64 0,.int .i64 0,.int .i64 0,.int .i64 0,.int .i64 0,.int .i64 0,.int .i64 0,.int .i64 0,.int
 .i64 0,.int .i64 0,.int .i64 0,.int .i64 0,.int .i64 0,.int .i64 0,.int .i64 0,.int .i64 0,.int .i64 0,.int .i64 0,.int .i64 0,.int .i64 0,.int
 .i64 0,.int .i64 0,.int .i64 0,.int .i64 0,.int .i64 0,.int .i64 0,.int .i64 0,.int .i64 0,.int .i64 0,.int .i64 0,.int .i64 0,.int .i64 0,.int
 .i64 0,.int .i64 0,.int .i64 0,.int .i64 0,.int .i64 0,.int .i64 0,.int .i64 0,.int .i64 0,.int .i64 0,.int .i64 0,.int .i64 0,.int .i64 0,.int
 .i64 0,.int .i64 0,.int .i64 0,.int .i64 0,.int .i64 0,.int .i64 0,.int .i64 0,.int .i64 0,.int .i64 0,.int .i64 0,.int .i64 0,.int .i64 0,.int
 .i64 0,.int .i64 0]) .nil) (.hv [] [] [] none (.st 210) (c2 (x 1) (x 5)))) (q (q (h 6 (.mkSl [.int .i64 0,.int .i64 0,.int .i64 0,.int .i64 0,.int .i64
 0,.int .i64 0,.int .i64 0]) (c2 (i 30) (i 30))) (s [(2,x 6)])) (q (q (s [(8,i 0),(7,n1 (.ld 210 true) (x 1))]) (.block 0 (.loop (q (.cond (b .lss (x 8)
 (i 30)) .skip (.exit 0)) (q (.block 1 (q (q (.hv [(10,n2 (.idx 30 7 true) (x 7) (x 8)),(9,x 8)] [] [] (some 4) (.alloc [.int .i64 0,.int .i64 0,.int .i64
 0,.int .i64 0,.int .i64 0,.int .i64 0,.int .i64 0]) .nil) (.hv [(3,x 9)] [] [] none (.st 7) (c2 (x 4) (x 10)))) (.hv [] [] [] none (.st 7) (c2 (n2
 (.iAddr 7) (x 2) (x 3)) (.node (.build [.int .i64 0,.int .i64 0,.int .i64 0,.int .i64 0,.int .i64 0,.int .i64 0,.int .i64 0] [(0,1),(1,1),(2,1),
 (3,1),(4,1),(5,1),(6,1)]) (c (ld (n2 (.iAddrA 7 1) (x 4) (i 0))) (c (ld (n2 (.iAddrA 7 1) (x 4) (i 1))) (c (ld (n2 (.iAddrA 7 1) (x 4) (i 2))) (c (ld
 (n2 (.iAddrA 7 1) (x 4) (i 3))) (c3 (ld (n2 (.iAddrA 7 1) (x 4) (i 4))) (ld (n2 (.iAddrA 7 1) (x 4) (i 5))) (ld (n2 (.iAddrA 7 1) (x 4) (i 6))))))))))))) (s
 [(8,b .add (x 8) (i 1))])))))) (q (s [(0,x 2)]) .ret))))
def cf55:CF:=⟨0,11,[(.var 0)],bd55,.plain⟩
def tr55:List Nat:=[0,1,2,3,4,35,36,37,38,40,41]
def bd56:Stm:=
 q (q (h 2 (.alloc [.int .i64 0,.int .i64 0,.int .i64 0]) .nil) (s [(3,i 0)])) (q (.cond (p (b .lss (x 0) (i 1)) (.cst (.bool true)) (b .gtr (x 0) (i 12))) (q
 (q (.hv [] [] [] none (.st 3) (c2 (x 2) (.node (.build [.int .i64 0,.int .i64 0,.int .i64 0] []) .nil))) (s [(3,i 3)])) .ret) .skip) (q (q (.hv [(5,.node
 (.build [.int .i64 0,.int .i64 0,.int .i64 0] [(0,1),(1,1),(2,1)]) (c3 (i 2) (b .shl (i 1) (x 0)) (x 1)))] [] [] (some 4) (.alloc [.int .i64 0,.int
 .i64 0,.int .i64 0]) .nil) (.hv [] [] [] none (.st 3) (c2 (x 4) (x 5)))) (q (q (cl 6 100 (c1 (n1 (.ld 3 true) (x 4)))) (.cond (n1 (.un .not) (x 6)) (q (q
 (.hv [] [] [] none (.st 3) (c2 (x 2) (.node (.build [.int .i64 0,.int .i64 0,.int .i64 0] []) .nil))) (s [(3,i 38)])) .ret) .skip)) (q (q (.hv [] [] []
 none (.st 3) (c2 (x 2) (n1 (.ld 3 true) (x 4)))) (s [(3,i 0)])) .ret))))
def cf56:CF:=⟨2,7,[(.node (.ld 3 true) (.cons (.var 2) .nil)),(.var 3)],bd56,.plain⟩
def tr56:List Nat:=[0,1,4,5,6,17,19]
def bd57:Stm:=
 q (q (h 3 .box (c1 (x 0))) (q (h 4 (.alloc [.int .i64 0,.int .i64 0,.int .i64 0,.int .i64 0,.int .i64 0]) .nil) (s [(5,i 0)]))) (q (q (cl 6 100 (c1 (n1
 (.ld 3 true) (x 3)))) (.cond (n1 (.un .not) (x 6)) (q (q (.hv [] [] [] none (.st 5) (c2 (x 4) (.node (.build [.int .i64 0,.int .i64 0,.int .i64 0,.int .i64
 0,.int .i64 0] []) .nil))) (s [(5,i 1)])) .ret) .skip)) (q (q (cl 7 101 (c3 (n1 (.ld 3 true) (x 3)) (x 1) (x 2))) (.cond (n1 (.un .not) (x 7)) (q (q (.hv []
 [] [] none (.st 5) (c2 (x 4) (.node (.build [.int .i64 0,.int .i64 0,.int .i64 0,.int .i64 0,.int .i64 0] []) .nil))) (s [(5,i 3)])) .ret) .skip)) (q (q
 (.hv [] [] [] none (.st 5) (c2 (x 4) (.node (.build [.int .i64 0,.int .i64 0,.int .i64 0,.int .i64 0,.int .i64 0] [(0,3),(3,1),(4,1)]) (c3 (n1 (.ld 3
 true) (x 3)) (x 1) (x 2))))) (s [(5,i 0)])) .ret)))
def cf57:CF:=⟨3,8,[(.node (.ld 5 true) (.cons (.var 4) .nil)),(.var 5)],bd57,.plain⟩
def tr57:List Nat:=[0,1,2,3,6,7,9,15]
def bd58:Stm:=
 q (q (h 2 .box (c1 (x 0))) (s [(3,.cst (.bool false))])) (q (q (cl 4 100 (c1 (n1 (.ld 3 true) (fa 0 (x 2))))) (q (.hv [(5,x 4)] [] [(x 4,true)] (some 6)
 (.call false) (c (.cst (.func (.func 101) #[] #[])) (c3 (n1 (.ld 3 true) (fa 0 (x 2))) (ld (fa 3 (x 2))) (ld (fa 4 (x 2)))))) (q (.hv [(7,p (x 5) (x 6) (.cst
 (.bool false)))] [] [(p (x 5) (x 6) (.cst (.bool false)),true)] (some 8) (.call false) (c3 (.cst (.func (.func 102) #[] #[])) (n1 (.ld 3 true) (fa 0 (x 2)))
 (x 1))) (s [(3,p (x 7) (x 8) (.cst (.bool false)))])))) .ret)
def cf58:CF:=⟨2,9,[(.var 3)],bd58,.plain⟩
def tr58:List Nat:=[0,1,2,4,7,8,15,17,21]
def bd59:Stm:=
 q (q (h 2 .box (c1 (x 0))) (s [(3,.cst (.bool false))])) (q (s [(3,p (b .gtr (x 1) (ld (fa 3 (x 2)))) (b .lss (x 1) (ld (fa 1 (fa 0 (x 2))))) (.cst (.bool
 false)))]) .ret)
def cf59:CF:=⟨2,4,[(.var 3)],bd59,.plain⟩
def tr59:List Nat:=[0,1,2,4]
def bd60:Stm:=
 q (q (h 1 .box (c1 (x 0))) (s [(3,i 0),(2,.cst (.slice none 0 0))])) (q (q (cl 7 58 (c2 (n1 (.ld 5 true) (x 1)) (.cst (.slice none 0 0)))) (.cond (n1 (.un
 .not) (x 7)) (q (s [(3,i 1),(2,.cst (.slice none 0 0))]) .ret) .skip)) (q (q (cl 8 71 (c1 (n1 (.ld 3 true) (fa 0 (x 1))))) (q (h 4 (.alloc [.int .i64 0,
 .int .i64 0,.slice none 0 0,.slice none 0 0]) .nil) (.hv [] [] [] none (.st 4) (c2 (x 4) (x 8))))) (q (q (h 9 (.mkSl [.int .i64 0]) (c2 (ld (fa 3 (x 1)))
 (ld (fa 3 (x 1))))) (s [(5,x 9)])) (q (q (s [(11,i 0),(10,n1 .len (x 5))]) (.block 0 (.loop (q (.cond (b .lss (x 11) (x 10)) .skip (.exit 0)) (q (.block 1
 (q (s [(6,x 11)]) (q (.hv [(13,x 6),(12,x 5)] [] [] (some 14) (.call false) (c3 (.cst (.func (.func 103) #[] #[])) (n1 (.ld 4 true) (x 4)) (b .add (ld (fa
 4 (x 1))) (x 6)))) (.hv [] [] [] none (.st 1) (c2 (n2 (.iAddr 1) (x 12) (x 13)) (x 14)))))) (s [(11,b .add (x 11) (i 1))])))))) (q (q (cl 15 104 (c2 (n1 (.ld
 3 true) (fa 0 (x 1))) (x 5))) (s [(3,ix 1 (x 15)),(2,ix 0 (x 15))])) .ret)))))
def cf60:CF:=⟨1,16,[(.var 2),(.var 3)],bd60,.plain⟩
def tr60:List Nat:=[0,1,2,3,4,5,6,8,12,15,17,18,21,22,28,34]
def bd61:Stm:=
 q (q (h 3 .box (c1 (x 0))) (s [(6,i 0),(5,.cst (.slice none 0 0)),(4,.cst (.slice none 0 0))])) (q (q (.hv [(7,n1 (.ld 3 true) (x 3))] [] [] (some 8)
 (.bSl [.slice none 0 0] 2 [0,1]) (c2 (x 1) (x 2))) (q (cl 9 105 (c2 (x 7) (x 8))) (.cond (n1 (.un .not) (x 9)) (q (s [(6,i 1),(5,.cst (.slice none 0 0)),
 (4,.cst (.slice none 0 0))]) .ret) .skip))) (q (.cond (b .eql (n1 .len (x 2)) (i 0)) (q (s [(6,i 12),(5,.cst (.slice none 0 0)),(4,.cst (.slice none 0
 0))]) .ret) .skip) (q (q (cl 10 106 (c1 (n1 (.ld 3 true) (x 3)))) (q (cl 11 107 (c3 (x 10) (x 1) (x 2))) (s [(5,ix 1 (x 11)),(4,ix 0 (x 11))]))) (q (s [(6,
 i 0),(5,x 5),(4,x 4)]) .ret))))
def cf61:CF:=⟨3,12,[(.var 4),(.var 5),(.var 6)],bd61,.plain⟩
def tr61:List Nat:=[0,1,2,3,6,7,8,9,12,13,20,23]
def bd62:Stm:=
 q (s [(1,.cst (.slice none 0 0))]) (q (s [(2,n1 .len (x 0))]) (q (.block 0 (.loop (q (.cond (p (b .gtr (x 2) (i 0)) (b .eql (ld (n2 (.iAddr 1) (x 0) (b .sub
 (x 2) (i 1)))) (i 0)) (.cst (.bool false))) .skip (.exit 0)) (.block 1 (s [(2,b .sub (x 2) (i 1))]))))) (q (q (h 3 (.app 1 [.int .i64 0]) (c2 (.cst (.slice
 none 0 0)) (n2 (.sl 1 false true false) (x 0) (x 2)))) (s [(1,x 3)])) .ret)))
def cf62:CF:=⟨1,4,[(.var 1)],bd62,.plain⟩
def tr62:List Nat:=[0,2,3,21]
def bd63:Stm:=
 q (q (h 3 .box (c1 (x 0))) (s [(5,i 0),(4,i 0)])) (q (q (.hv [(6,n1 (.ld 3 true) (x 3))] [] [] (some 7) (.bSl [.int .i64 0] 2 [0,1]) (c2 (x 1) (x 2))) (q
 (cl 8 108 (c2 (x 6) (x 7))) (.cond (n1 (.un .not) (x 8)) (q (s [(5,i 1),(4,i 0)]) .ret) .skip))) (q (.cond (b .neq (ld (fa 2 (x 3))) (i 0)) (q (s [(5,i
 0),(4,b .xor (x 1) (x 2))]) .ret) .skip) (q (s [(5,i 0),(4,b .rem (b .add (b .sub (x 1) (x 2)) (ld (fa 1 (x 3)))) (ld (fa 1 (x 3))))]) .ret)))
def cf63:CF:=⟨3,9,[(.var 4),(.var 5)],bd63,.plain⟩
def tr63:List Nat:=[0,1,2,3,6,7,8,11,12]
def bd71:Stm:=
 q (q (h 1 .box (c1 (x 0))) (h 2 (.alloc [.int .i64 0,.int .i64 0,.slice none 0 0,.slice none 0 0]) .nil)) (q (q (cl 7 114 (c1 (n1 (.ld 3 true) (x 1))))
 (.sets [(3,ix 0 (x 7))] [ix 1 (x 7)])) (q (q (.hv [(11,ld (fa 1 (x 1))),(9,ld (fa 1 (x 1))),(8,ld (fa 0 (x 1)))] [] [] (some 10) (.mkSl [.int .i64 0])
 (c2 (b .sub (ld (fa 1 (x 1))) (i 1)) (b .sub (ld (fa 1 (x 1))) (i 1)))) (q (h 12 (.mkSl [.int .i64 0]) (c2 (x 11) (x 11))) (q (.hv [(13,.node (.build [.int
 .i64 0,.int .i64 0,.slice none 0 0,.slice none 0 0] [(0,1),(1,1),(2,1),(3,1)]) (c (x 8) (c3 (x 9) (x 10) (x 12))))] [] [] (some 4) (.alloc [.int
 .i64 0,.int .i64 0,.slice none 0 0,.slice none 0 0]) .nil) (.hv [] [] [] none (.st 4) (c2 (x 4) (x 13)))))) (q (s [(5,i 1)]) (q (q (s [(15,i 0),(14,n1
 .len (ld (fa 2 (x 4))))]) (.block 0 (.loop (q (.cond (b .lss (x 15) (x 14)) .skip (.exit 0)) (q (.block 1 (q (s [(6,x 15)]) (q (q (.hv [(20,n2 (.iAddr 1)
 (ld (fa 2 (x 4))) (x 6)),(19,x 6),(18,x 5),(17,ld (fa 3 (x 4))),(16,fa 3 (x 4))] [] [] none (.st 1) (c2 (n2 (.iAddr 1) (ld (fa 2 (x 4))) (x 6)) (x
 5))) (q (.hv [] [] [] none (.st 1) (c2 (n2 (.iAddr 1) (x 17) (x 18)) (x 19))) (.dist (x 20) (x 16)))) (q (cl 21 115 (c3 (n1 (.ld 3 true) (x 1)) (x 5) (x 3)))
 (.sets [(5,ix 0 (x 21))] [ix 1 (x 21)]))))) (s [(15,b .add (x 15) (i 1))])))))) (q (.hv [] [] [] none (.st 4) (c2 (x 2) (n1 (.ld 4 true) (x 4)))) .ret)))))
def cf71:CF:=⟨1,22,[(.node (.ld 4 true) (.cons (.var 2) .nil))],bd71,.plain⟩
def tr71:List Nat:=[0,1,2,3,5,6,7,10,14,16,20,22,23,24,27,28,34,35,36,38,39,45]
def bd72:Stm:=
 q (s [(1,.cst (.bool false))]) (q (q (h 4 (.bSl [.nilFunc] 6 [0,1,2,3,4,5]) (c (n1 (.mkF 116 1) (x 0)) (c (n1 (.mkF 117 1) (x 0)) (c (n1 (.mkF 118 1) (x
 0)) (c3 (n1 (.mkF 119 1) (x 0)) (n1 (.mkF 120 1) (x 0)) (n1 (.mkF 121 1) (x 0))))))) (s [(2,x 4)])) (q (q (s [(7,i 0),(6,n1 .len (x 2)),(5,x 2)])
 (.block 0 (.loop (q (.cond (b .lss (x 7) (x 6)) .skip (.exit 0)) (q (.block 1 (q (s [(3,ld (n2 (.iAddr 1) (x 5) (x 7)))]) (q (h 8 (.call false) (c1 (x 3)))
 (.cond (n1 (.un .not) (x 8)) (q (s [(1,.cst (.bool false))]) .ret) .skip)))) (s [(7,b .add (x 7) (i 1))])))))) (q (s [(1,.cst (.bool true))]) .ret)))
def cf72:CF:=⟨1,9,[(.var 1)],bd72,.plain⟩
def tr72:List Nat:=[0,2,3,5,18,19,20,21,26]
def bd75:Stm:=
 q (s [(1,.cst (.pointer none))]) (q (q (.hv [(5,x 0)] [] [] (some 6) (.mkSl [.int .i64 0,.int .i64 0,.int .i64 0,.int .i64 0,.int .i64 0,.int .i64 0,
 .int .i64 0,.int .i64 0,.int .i64 0,.int .i64 0,.int .i64 0,.int .i64 0,.int .i64 0,.int .i64 0,.int .i64 0,.int .i64 0,.int .i64 0,.int .i64 0,
 .int .i64 0]) (c2 (b .add (n1 .len (x 0)) (i 1)) (b .add (n1 .len (x 0)) (i 1)))) (q (h 7 .box (c1 (n2 (.build [.slice none 0 0,.slice none 0 0] [(0,1),(1,
 1)]) (x 5) (x 6)))) (s [(2,x 7)]))) (q (q (s [(3,n1 .len (x 0))]) (.block 0 (.loop (q (.cond (b .geq (x 3) (i 0)) .skip (.exit 0)) (q (.block 1 (q (q (s
 [(8,i 0)]) (.block 2 (.loop (q (.cond (b .lss (x 8) (i 19)) .skip (.exit 2)) (q (.block 3 (q (s [(4,x 8)]) (.hv [] [] [] none (.st 1) (c2 (n2 (.iAddrA 19 1)
 (n2 (.iAddr 19) (ld (fa 1 (n1 .nilChk (x 2)))) (x 3)) (x 4)) (i 1073741824))))) (s [(8,b .add (x 8) (i 1))])))))) (q (.cond (b .eql (x 3) (n1 .len (x 0)))
 (.hv [] [] [] none (.st 1) (c2 (n2 (.iAddrA 19 1) (n2 (.iAddr 19) (ld (fa 1 (n1 .nilChk (x 2)))) (x 3)) (i 0)) (i 0))) .skip) (.hv [] [] [] none (.call false)
 (c3 (.cst (.func (.func 128) #[] #[])) (x 2) (x 3)))))) (s [(3,b .sub (x 3) (i 1))])))))) (q (s [(1,x 2)]) .ret)))
def cf75:CF:=⟨1,9,[(.var 1)],bd75,.plain⟩
def tr75:List Nat:=[0,2,3,4,5,6,10,12,19]
def bd76:Stm:=
 q (s [(1,.cst (.slice none 0 0))]) (.scope (q (q (h 8 (.mkSl [.int .i64 0]) (c2 (i 0) (ld (n2 (.iAddrA 19 1) (n2 (.iAddr 19) (ld (fa 1 (n1 .nilChk (x 0)))) (i
 0)) (i 0))))) (s [(2,x 8)])) (q (s [(4,i 0),(3,i 0)]) (q (h 5 (.alloc [.int .i64 0,.int .i64 0,.int .i64 0,.int .i64 0,.int .i64 0,.int .i64 0,.int
 .i64 0]) .nil) (q .skip (q (.cond (p (b .eql (x 4) (i 0)) (b .eql (x 3) (n1 .len (ld (fa 0 (n1 .nilChk (x 0)))))) (.cst (.bool false))) (q (s [(1,x 2)])
 .ret) .skip) (q (q (cl 9 129 (c3 (x 0) (x 3) (x 4))) (.hv [] [] [] none (.st 7) (c2 (x 5) (x 9)))) (q (.cond (b .gtr (ld (fa 4 (x 5))) (i 0)) (.exit 1000001)
 .skip) (q (q (h 10 (.app 1 [.int .i64 0]) (c2 (x 2) (n2 (.slA 3 1 false true false) (fa 0 (x 5)) (ld (fa 3 (x 5)))))) (s [(2,x 10)])) (q (.exit 1000002) (q
 .skip (q (q (.hv [(11,x 2)] [] [] (some 12) (.bSl [.int .i64 0] 1 [0]) (c1 (ld (n2 (.iAddrA 3 1) (fa 0 (x 5)) (i 0))))) (q (h 13 (.app 1 [.int .i64 0]) (c2
 (x 11) (x 12))) (s [(2,x 13)]))) (q (q (s [(16,i 0),(15,n1 .len (.node (.slA 3 1 true true false) (c3 (fa 0 (x 5)) (i 1) (ld (fa 3 (x 5)))))),(14,.node
 (.slA 3 1 true true false) (c3 (fa 0 (x 5)) (i 1) (ld (fa 3 (x 5)))))]) (.block 0 (.loop (q (.cond (b .lss (x 16) (x 15)) .skip (.exit 0)) (q (.block 1 (q (s
 [(6,ld (n2 (.iAddr 1) (x 14) (x 16)))]) (q (.hv [(18,x 6),(17,x 2)] [] [] (some 19) (.call false) (c2 (.cst (.func (.func 130) #[] #[])) (n1 .len (x 2))))
 (q (h 20 (.bSl [.int .i64 0] 1 [0]) (c1 (b .rem (b .add (x 18) (x 19)) (i 256)))) (q (h 21 (.app 1 [.int .i64 0]) (c2 (x 17) (x 20))) (s [(2,x 21)])))))) (s
 [(16,b .add (x 16) (i 1))])))))) (q (q (s [(24,i 0),(23,n1 .len (.node (.sl 1 true true false) (c3 (ld (fa 0 (n1 .nilChk (x 0)))) (x 3) (b .add (x 3) (ld
 (fa 4 (x 5))))))),(22,.node (.sl 1 true true false) (c3 (ld (fa 0 (n1 .nilChk (x 0)))) (x 3) (b .add (x 3) (ld (fa 4 (x 5))))))]) (.block 2 (.loop (q (.cond
 (b .lss (x 24) (x 23)) .skip (.exit 2)) (q (.block 3 (q (s [(7,ld (n2 (.iAddr 1) (x 22) (x 24)))]) (q (.hv [(26,n1 (.cvt .i64) (x 7)),(25,x 2)] [] []
 (some 27) (.call false) (c2 (.cst (.func (.func 130) #[] #[])) (n1 .len (x 2)))) (q (h 28 (.bSl [.int .i64 0] 1 [0]) (c1 (b .rem (b .add (x 26) (x 27)) (i
 256)))) (q (h 29 (.app 1 [.int .i64 0]) (c2 (x 25) (x 28))) (s [(2,x 29)])))))) (s [(24,b .add (x 24) (i 1))])))))) (q .skip (q (s [(4,ld (fa 6 (x 5))),
 (3,ld (fa 5 (x 5)))]) (.exit 1000000)))))))))))))))) (.alt 0 (q .skip (q (.cond (p (b .eql (x 4) (i 0)) (b .eql (x 3) (n1 .len (ld (fa 0 (n1 .nilChk (x
 0)))))) (.cst (.bool false))) (q (s [(1,x 2)]) .ret) .skip) (q (q (cl 9 129 (c3 (x 0) (x 3) (x 4))) (.hv [] [] [] none (.st 7) (c2 (x 5) (x 9)))) (q (.cond
 (b .gtr (ld (fa 4 (x 5))) (i 0)) (.exit 1000001) .skip) (q (q (h 10 (.app 1 [.int .i64 0]) (c2 (x 2) (n2 (.slA 3 1 false true false) (fa 0 (x 5)) (ld (fa 3 (x
 5)))))) (s [(2,x 10)])) (q (.exit 1000002) (q .skip (q (q (.hv [(11,x 2)] [] [] (some 12) (.bSl [.int .i64 0] 1 [0]) (c1 (ld (n2 (.iAddrA 3 1) (fa 0 (x 5))
 (i 0))))) (q (h 13 (.app 1 [.int .i64 0]) (c2 (x 11) (x 12))) (s [(2,x 13)]))) (q (q (s [(16,i 0),(15,n1 .len (.node (.slA 3 1 true true false) (c3 (fa 0
 (x 5)) (i 1) (ld (fa 3 (x 5)))))),(14,.node (.slA 3 1 true true false) (c3 (fa 0 (x 5)) (i 1) (ld (fa 3 (x 5)))))]) (.block 0 (.loop (q (.cond (b .lss (x
 16) (x 15)) .skip (.exit 0)) (q (.block 1 (q (s [(6,ld (n2 (.iAddr 1) (x 14) (x 16)))]) (q (.hv [(18,x 6),(17,x 2)] [] [] (some 19) (.call false) (c2
 (.cst (.func (.func 130) #[] #[])) (n1 .len (x 2)))) (q (h 20 (.bSl [.int .i64 0] 1 [0]) (c1 (b .rem (b .add (x 18) (x 19)) (i 256)))) (q (h 21 (.app 1 [.int
 .i64 0]) (c2 (x 17) (x 20))) (s [(2,x 21)])))))) (s [(16,b .add (x 16) (i 1))])))))) (q (q (s [(24,i 0),(23,n1 .len (.node (.sl 1 true true false) (c3
 (ld (fa 0 (n1 .nilChk (x 0)))) (x 3) (b .add (x 3) (ld (fa 4 (x 5))))))),(22,.node (.sl 1 true true false) (c3 (ld (fa 0 (n1 .nilChk (x 0)))) (x 3) (b .add
 (x 3) (ld (fa 4 (x 5))))))]) (.block 2 (.loop (q (.cond (b .lss (x 24) (x 23)) .skip (.exit 2)) (q (.block 3 (q (s [(7,ld (n2 (.iAddr 1) (x 22) (x 24)))]) (q
 (.hv [(26,n1 (.cvt .i64) (x 7)),(25,x 2)] [] [] (some 27) (.call false) (c2 (.cst (.func (.func 130) #[] #[])) (n1 .len (x 2)))) (q (h 28 (.bSl [.int .i64
 0] 1 [0]) (c1 (b .rem (b .add (x 26) (x 27)) (i 256)))) (q (h 29 (.app 1 [.int .i64 0]) (c2 (x 25) (x 28))) (s [(2,x 29)])))))) (s [(24,b .add (x 24) (i
 1))])))))) (q .skip (q (s [(4,ld (fa 6 (x 5))),(3,ld (fa 5 (x 5)))]) (.exit 1000000))))))))))))) (.alt 1 (q .skip (q (q (.hv [(11,x 2)] [] [] (some 12)
 (.bSl [.int .i64 0] 1 [0]) (c1 (ld (n2 (.iAddrA 3 1) (fa 0 (x 5)) (i 0))))) (q (h 13 (.app 1 [.int .i64 0]) (c2 (x 11) (x 12))) (s [(2,x 13)]))) (q (q (s
 [(16,i 0),(15,n1 .len (.node (.slA 3 1 true true false) (c3 (fa 0 (x 5)) (i 1) (ld (fa 3 (x 5)))))),(14,.node (.slA 3 1 true true false) (c3 (fa 0 (x 5))
 (i 1) (ld (fa 3 (x 5)))))]) (.block 0 (.loop (q (.cond (b .lss (x 16) (x 15)) .skip (.exit 0)) (q (.block 1 (q (s [(6,ld (n2 (.iAddr 1) (x 14) (x 16)))]) (q
 (.hv [(18,x 6),(17,x 2)] [] [] (some 19) (.call false) (c2 (.cst (.func (.func 130) #[] #[])) (n1 .len (x 2)))) (q (h 20 (.bSl [.int .i64 0] 1 [0]) (c1 (b
 .rem (b .add (x 18) (x 19)) (i 256)))) (q (h 21 (.app 1 [.int .i64 0]) (c2 (x 17) (x 20))) (s [(2,x 21)])))))) (s [(16,b .add (x 16) (i 1))])))))) (q (q (s
 [(24,i 0),(23,n1 .len (.node (.sl 1 true true false) (c3 (ld (fa 0 (n1 .nilChk (x 0)))) (x 3) (b .add (x 3) (ld (fa 4 (x 5))))))),(22,.node (.sl 1 true
 true false) (c3 (ld (fa 0 (n1 .nilChk (x 0)))) (x 3) (b .add (x 3) (ld (fa 4 (x 5))))))]) (.block 2 (.loop (q (.cond (b .lss (x 24) (x 23)) .skip (.exit 2))
 (q (.block 3 (q (s [(7,ld (n2 (.iAddr 1) (x 22) (x 24)))]) (q (.hv [(26,n1 (.cvt .i64) (x 7)),(25,x 2)] [] [] (some 27) (.call false) (c2 (.cst (.func
 (.func 130) #[] #[])) (n1 .len (x 2)))) (q (h 28 (.bSl [.int .i64 0] 1 [0]) (c1 (b .rem (b .add (x 26) (x 27)) (i 256)))) (q (h 29 (.app 1 [.int .i64 0]) (c2
 (x 25) (x 28))) (s [(2,x 29)])))))) (s [(24,b .add (x 24) (i 1))])))))) (q .skip (q (s [(4,ld (fa 6 (x 5))),(3,ld (fa 5 (x 5)))]) (.exit 1000000)))))))
 (.alt 2 (q .skip (q (s [(4,ld (fa 6 (x 5))),(3,ld (fa 5 (x 5)))]) (.exit 1000000))) (.cond .nil .skip .skip)))))
def cf76:CF:=⟨1,30,[(.var 1)],bd76,.plain⟩
def tr76:List Nat:=[0,2,3,4,5,6,8,10,18,34,43,44,48,49,53,54,55,59,60,63,66,67,78,79,80,84,86,89,92,93]
def bd77:Stm:=
 q (q (h 1 .box (c1 (x 0))) (s [(3,i 0),(2,i 0)])) (q (s [(3,b .mul (b .quo (ld (fa 1 (x 1))) (b .add (ld (fa 3 (x 1))) (i 2))) (ld (fa 3 (x 1)))),(2,b
 .mul (b .quo (ld (fa 0 (x 1))) (b .add (ld (fa 2 (x 1))) (i 2))) (ld (fa 2 (x 1))))]) .ret)
def cf77:CF:=⟨1,4,[(.var 2),(.var 3)],bd77,.plain⟩
def tr77:List Nat:=[0,1,2,3]
def bd78:Stm:=
 q (s [(2,.cst (.slice none 0 0))]) (q (q (.hv [(11,x 1),(10,x 0)] [] [] (some 12) (.bSl [.int .i64 0] 1 [0]) (c1 (i (-1)))) (q (cl 13 131 (c2 (x 12) (b .mul
 (x 0) (x 1)))) (q (h 14 .box (c1 (.node (.build [.int .i64 0,.int .i64 0,.slice none 0 0,.int .i64 0] [(0,1),(1,1),(2,1)]) (c3 (x 10) (x 11) (x
 13))))) (s [(3,x 14)])))) (q (s [(4,n1 (.mkF 132 1) (x 3))]) (q (s [(6,i 0),(5,i 4)]) (q (q (s [(7,.cst (.bool true))]) (.block 0 (.loop (q (.cond (x 7)
 .skip (.exit 0)) (q (.block 1 (q (.hv [] [] [] none (.call false) (c (.cst (.func (.func 133) #[] #[])) (c (x 3) (c3 (x 5) (x 6) (x 4))))) (q (q (s [(8,.cst
 (.bool true))]) (.block 2 (.loop (q (.cond (x 8) .skip (.exit 2)) (q (.block 3 (q (q (cl 15 134 (c3 (x 3) (x 5) (x 6))) (.cond (x 15) (.hv [] [] [] none
 (.call false) (c (.cst (.func (.func 135) #[] #[])) (c (x 3) (c3 (x 5) (x 6) (x 4))))) .skip)) (s [(6,b .add (x 6) (i 2)),(5,b .sub (x 5) (i 2))]))) (s
 [(8,p (b .geq (x 5) (i 0)) (b .lss (x 6) (x 1)) (.cst (.bool false)))])))))) (q (s [(6,b .add (x 6) (i 3)),(5,b .add (x 5) (i 1))]) (q (q (s [(9,.cst
 (.bool true))]) (.block 4 (.loop (q (.cond (x 9) .skip (.exit 4)) (q (.block 5 (q (q (cl 16 134 (c3 (x 3) (x 5) (x 6))) (.cond (x 16) (.hv [] [] [] none
 (.call false) (c (.cst (.func (.func 135) #[] #[])) (c (x 3) (c3 (x 5) (x 6) (x 4))))) .skip)) (s [(6,b .sub (x 6) (i 2)),(5,b .add (x 5) (i 2))]))) (s
 [(9,p (b .lss (x 5) (x 0)) (b .geq (x 6) (i 0)) (.cst (.bool false)))])))))) (s [(6,b .add (x 6) (i 1)),(5,b .add (x 5) (i 3))])))))) (s [(7,p (b .lss (x
 5) (x 0)) (.cst (.bool true)) (b .lss (x 6) (x 1)))])))))) (q (s [(2,ld (fa 2 (n1 .nilChk (x 3))))]) .ret)))))
def cf78:CF:=⟨2,17,[(.var 2)],bd78,.plain⟩
def tr78:List Nat:=[0,1,4,5,6,7,8,9,10,11,12,13,14,18,20,48,73]
def bd79:Stm:=
 q (q (h 3 .box (c1 (x 0))) (h 4 (.alloc [.bool false,.bool false,.int .i64 0]) .nil)) (q (s [(6,b .add (ld (fa 3 (x 3))) (i 2)),(5,b .add (ld (fa 2 (x 3)))
 (i 2))]) (q (s [(8,b .rem (x 2) (x 6)),(7,b .rem (x 1) (x 5))]) (q (.block 0 (.cond (p (b .eql (x 8) (i 0)) (.cst (.bool true)) (b .eql (x 7) (b .sub (x 5)
 (i 1)))) (q (.hv [] [] [] none (.st 3) (c2 (x 4) (n2 (.build [.bool false,.bool false,.int .i64 0] [(0,1),(1,1)]) (.cst (.bool true)) (.cst (.bool
 true))))) .ret) (.cond (b .eql (x 7) (i 0)) (q (.hv [] [] [] none (.st 3) (c2 (x 4) (n2 (.build [.bool false,.bool false,.int .i64 0] [(0,1),(1,1)])
 (.cst (.bool true)) (b .eql (b .rem (x 8) (i 2)) (i 0))))) .ret) (.cond (b .eql (x 8) (b .sub (x 6) (i 1))) (q (.hv [] [] [] none (.st 3) (c2 (x 4) (n2
 (.build [.bool false,.bool false,.int .i64 0] [(0,1),(1,1)]) (.cst (.bool true)) (b .eql (b .rem (x 7) (i 2)) (i 1))))) .ret) .skip)))) (q (q (cl 10 77
 (c1 (n1 (.ld 7 true) (x 3)))) (.sets [(9,ix 1 (x 10))] [ix 0 (x 10)])) (q (.hv [] [] [] none (.st 3) (c2 (x 4) (n1 (.build [.bool false,.bool false,.int
 .i64 0] [(2,1)]) (b .sub (b .add (b .add (b .mul (b .sub (b .add (b .mul (b .quo (x 1) (x 5)) (ld (fa 2 (x 3)))) (x 7)) (i 1)) (x 9)) (b .mul (b .quo (x 2)
 (x 6)) (ld (fa 3 (x 3))))) (x 8)) (i 1))))) .ret)))))
def cf79:CF:=⟨3,11,[(.node (.ld 3 true) (.cons (.var 4) .nil))],bd79,.plain⟩
def tr79:List Nat:=[0,1,2,3,6,7,8,9,10,12,53]
def bd80:Stm:=
 q (s [(3,.cst (.bool false))]) (q (s [(5,b .rem (x 2) (x 1)),(4,b .quo (x 2) (x 1))]) (q (s [(3,p (p (b .eql (x 4) (b .sub (x 0) (i 2))) (b .eql (x 5) (b
 .sub (x 1) (i 2))) (.cst (.bool false))) (.cst (.bool true)) (p (b .eql (x 4) (b .sub (x 0) (i 1))) (b .eql (x 5) (b .sub (x 1) (i 1))) (.cst (.bool
 false))))]) .ret))
def cf80:CF:=⟨3,6,[(.var 3)],bd80,.plain⟩
def tr80:List Nat:=[0,1,2,6,7,8]
def bd86:Stm:=
 q (q (h 1 .box (c1 (x 0))) (s [(2,.cst (.bool false))])) (q (s [(2,p (p (p (p (p (b .geq (ld (fa 0 (x 1))) (i 1)) (b .leq (ld (fa 0 (x 1))) (i 4096)) (.cst
 (.bool false))) (b .geq (ld (fa 1 (x 1))) (i 1)) (.cst (.bool false))) (b .leq (ld (fa 1 (x 1))) (i 4096)) (.cst (.bool false))) (b .leq (b .mul (ld (fa 0 (x
 1))) (ld (fa 1 (x 1)))) (i 4194304)) (.cst (.bool false))) (b .eql (n1 .len (ld (fa 2 (x 1)))) (b .mul (ld (fa 0 (x 1))) (ld (fa 1 (x 1))))) (.cst (.bool
 false)))]) .ret)
def cf86:CF:=⟨1,3,[(.var 2)],bd86,.plain⟩
def tr86:List Nat:=[0,1,2]
def bd87:Stm:=
 q (s [(2,i 0)]) (q (q (s [(5,i 0),(4,n1 .len (x 0))]) (.block 0 (.loop (q (.cond (b .lss (x 5) (x 4)) .skip (.exit 0)) (q (.block 1 (q (s [(3,x 5)]) (q (h
 6 (.call false) (c2 (x 1) (n1 (.ld 7 true) (n2 (.iAddr 7) (x 0) (x 3))))) (.cond (x 6) (q (s [(2,x 3)]) .ret) .skip)))) (s [(5,b .add (x 5) (i 1))])))))) (q
 (s [(2,i (-1))]) .ret))
def cf87:CF:=⟨2,7,[(.var 2)],bd87,.plain⟩
def tr87:List Nat:=[0,1,4,5,7,8,16]
def bd88:Stm:=
 q (q (h 2 .box (c1 (x 0))) (s [(3,.cst (.bool false))])) (q (s [(3,p (b .eql (ld (fa 0 (x 2))) (ld (fa 1 (x 1)))) (b .eql (ld (fa 1 (x 2))) (ld (fa 0 (x 1))))
 (.cst (.bool false)))]) .ret)
def cf88:CF:=⟨2,4,[(.var 3)],bd88,.plain⟩
def tr88:List Nat:=[0,1,2,3]
def bd89:Stm:=
 q (s [(2,i 0)]) (q (.block 0 (.cond (p (b .geq (x 1) (i 1)) (b .leq (x 1) (i 128)) (.cst (.bool false))) (q (q (.hv [(5,ld (fa 2 (n1 .nilChk (x 0)))),(4,x
 0)] [] [] (some 6) (.bSl [.int .u8 0] 1 [0]) (c1 (n1 (.cvt .u8) (b .sub (x 1) (i 1))))) (q (h 7 (.app 1 [.int .u8 0]) (c2 (x 5) (x 6))) (.hv [] [] [] none
 (.st 1) (c2 (fa 2 (n1 .nilChk (x 4))) (x 7))))) (q (s [(2,i 0)]) .ret)) (.cond (p (b .geq (x 1) (i 130)) (b .lss (x 1) (i 230)) (.cst (.bool false))) (q (s
 [(3,b .sub (x 1) (i 130))]) (q (q (.hv [(9,ld (fa 2 (n1 .nilChk (x 0)))),(8,x 0)] [] [] (some 10) (.bSl [.int .u8 0] 2 [0,1]) (c2 (n1 (.cvt .u8) (b .add
 (i 48) (b .quo (x 3) (i 10)))) (n1 (.cvt .u8) (b .add (i 48) (b .rem (x 3) (i 10)))))) (q (h 11 (.app 1 [.int .u8 0]) (c2 (x 9) (x 10))) (.hv [] [] [] none
 (.st 1) (c2 (fa 2 (n1 .nilChk (x 8))) (x 11))))) (q (s [(2,i 0)]) .ret))) .skip))) (q (q (s [(12,x 1)]) (.block 1 (.cond (b .eql (x 12) (i 235)) (q (q (cl
 13 138 (c1 (x 0))) (s [(2,x 13)])) .ret) (.cond (b .eql (x 12) (i 230)) (q (q (cl 14 139 (c2 (x 0) (.cst (.bool false)))) (s [(2,x 14)])) .ret) (.cond (b
 .eql (x 12) (i 239)) (q (q (cl 15 139 (c2 (x 0) (.cst (.bool true)))) (s [(2,x 15)])) .ret) (.cond (b .eql (x 12) (i 231)) (q (q (cl 16 140 (c1 (x 0))) (s
 [(2,x 16)])) .ret) (.cond (b .eql (x 12) (i 238)) (q (q (cl 17 141 (c1 (x 0))) (s [(2,x 17)])) .ret) (.cond (b .eql (x 12) (i 240)) (q (q (cl 18 142 (c1 (x
 0))) (s [(2,x 18)])) .ret) .skip)))))))) (q (s [(2,i 22)]) .ret)))
def cf89:CF:=⟨2,19,[(.var 2)],bd89,.plain⟩
def tr89:List Nat:=[0,1,4,5,13,17,21,22,34,38,47,48,51,55,59,63,67,71,75]
def bd99:Stm:=
 q (q (h 2 .box (c1 (x 1))) (s [(3,i 0)])) (q (q (s [(6,i 0),(5,n1 .len (x 0))]) (.block 0 (.loop (q (.cond (b .lss (x 6) (x 5)) .skip (.exit 0)) (q (.block
 1 (q (s [(4,x 6)]) (.cond (n2 (.eqA false [1,1,1,1,1,1,1]) (n1 (.ld 7 true) (x 2)) (n1 (.ld 7 true) (n2 (.iAddr 7) (x 0) (x 4)))) (q (s [(3,x 4)])
 .ret) .skip))) (s [(6,b .add (x 6) (i 1))])))))) (q (s [(3,i (-1))]) .ret))
def cf99:CF:=⟨2,7,[(.var 3)],bd99,.plain⟩
def tr99:List Nat:=[0,1,3,4,5,7,8]
def bd100:Stm:=
 q (q (h 1 .box (c1 (x 0))) (s [(2,.cst (.bool false))])) (q (.cond (b .eql (ld (fa 2 (x 1))) (i 0)) (q (q (.hv [(3,p (p (b .gtr (ld (fa 1 (x 1))) (i 2)) (b
 .leq (ld (fa 1 (x 1))) (i 4096)) (.cst (.bool false))) (n2 (.eqA false [1,1,1]) (n1 (.ld 3 true) (x 1)) (n2 (.build [.int .i64 0,.int .i64 0,.int .i64 0]
 [(0,1),(1,1)]) (ld (fa 1 (x 1))) (ld (fa 1 (x 1))))) (.cst (.bool false)))] [] [(p (p (b .gtr (ld (fa 1 (x 1))) (i 2)) (b .leq (ld (fa 1 (x 1))) (i 4096))
 (.cst (.bool false))) (n2 (.eqA false [1,1,1]) (n1 (.ld 3 true) (x 1)) (n2 (.build [.int .i64 0,.int .i64 0,.int .i64 0] [(0,1),(1,1)]) (ld (fa 1 (x
 1))) (ld (fa 1 (x 1))))) (.cst (.bool false)),true)] (some 4) (.call false) (c2 (.cst (.func (.func 148) #[] #[])) (ld (fa 1 (x 1))))) (s [(2,p (x 3) (x 4)
 (.cst (.bool false)))])) .ret) .skip) (q (q (.hv [(5,b .lss (ld (fa 2 (x 1))) (i 2))] [] [(b .lss (ld (fa 2 (x 1))) (i 2),false)] (some 6) (.call false) (c2
 (.cst (.func (.func 149) #[] #[])) (ld (fa 2 (x 1))))) (.cond (p (x 5) (.cst (.bool true)) (b .gtr (x 6) (i 12))) (q (s [(2,.cst (.bool false))]) .ret)
 .skip)) (q (q (.hv [(9,ld (fa 2 (x 1))),(7,n1 (.ld 3 true) (x 1))] [] [] (some 8) (.call true) (c2 (.cst (.func (.func 149) #[] #[])) (ld (fa 2 (x 1)))))
 (q (.hv [(10,n2 (.eqA false [1,1,1]) (x 7) (.node (.build [.int .i64 0,.int .i64 0,.int .i64 0] [(0,1),(1,1),(2,1)]) (c3 (i 2) (b .shl (i 1) (x 8))
 (x 9))))] [] [(n2 (.eqA false [1,1,1]) (x 7) (.node (.build [.int .i64 0,.int .i64 0,.int .i64 0] [(0,1),(1,1),(2,1)]) (c3 (i 2) (b .shl (i 1) (x 8))
 (x 9))),true)] (some 11) .callC (c2 (.cst (.func (.func 150) #[] #[])) (ld (fa 2 (x 1))))) (s [(2,p (x 10) (x 11) (.cst (.bool false)))]))) .ret)))
def cf100:CF:=⟨1,12,[(.var 2)],bd100,.plain⟩
def tr100:List Nat:=[0,1,2,23,26,31,34,37,40,43,46,49]
def bd101:Stm:=
 q (q (h 3 .box (c1 (x 0))) (s [(4,.cst (.bool false))])) (q (s [(4,p (p (p (b .geq (x 1) (i 1)) (b .leq (x 1) (b .sub (ld (fa 1 (x 3))) (i 2))) (.cst (.bool
 false))) (b .geq (x 2) (i 0)) (.cst (.bool false))) (b .leq (x 2) (b .sub (ld (fa 1 (x 3))) (i 2))) (.cst (.bool false)))]) .ret)
def cf101:CF:=⟨3,5,[(.var 4)],bd101,.plain⟩
def tr101:List Nat:=[0,1,2,3,6]
def bd102:Stm:=
 q (q (h 2 .box (c1 (x 0))) (s [(3,.cst (.bool false))])) (q (q (s [(7,i 0),(6,n1 .len (x 1)),(5,x 1)]) (.block 0 (.loop (q (.cond (b .lss (x 7) (x 6))
 .skip (.exit 0)) (q (.block 1 (q (s [(4,ld (n2 (.iAddr 1) (x 5) (x 7)))]) (.cond (p (b .lss (x 4) (i 0)) (.cst (.bool true)) (b .geq (x 4) (ld (fa 1 (x
 2))))) (q (s [(3,.cst (.bool false))]) .ret) .skip))) (s [(7,b .add (x 7) (i 1))])))))) (q (s [(3,.cst (.bool true))]) .ret))
def cf102:CF:=⟨2,8,[(.var 3)],bd102,.plain⟩
def tr102:List Nat:=[0,1,2,4,6,7,8,9]
def bd103:Stm:=
 q (q (h 2 .box (c1 (x 0))) (s [(3,i 0)])) (q (s [(3,ld (n2 (.iAddr 1) (ld (fa 2 (x 2))) (b .rem (x 1) (b .sub (ld (fa 1 (x 2))) (i 1)))))]) .ret)
def cf103:CF:=⟨2,4,[(.var 3)],bd103,.plain⟩
def tr103:List Nat:=[0,1,2,4]
def bd104:Stm:=
 q (q (h 2 .box (c1 (x 0))) (s [(4,i 0),(3,.cst (.slice none 0 0))])) (q (q (cl 8 105 (c2 (n1 (.ld 3 true) (x 2)) (.cst (.slice none 0 0)))) (q (.hv [(9,n1
 (.un .not) (x 8))] [] [(n1 (.un .not) (x 8),false)] (some 10) (.call false) (c3 (.cst (.func (.func 151) #[] #[])) (n1 (.ld 3 true) (x 2)) (x 1))) (.cond (p
 (x 9) (.cst (.bool true)) (n1 (.un .not) (x 10))) (q (s [(4,i 1),(3,.cst (.slice none 0 0))]) .ret) .skip))) (q (.cond (b .gtr (n1 .len (x 1)) (i 4096)) (q
 (s [(4,i 4),(3,.cst (.slice none 0 0))]) .ret) .skip) (q (q (cl 11 106 (c1 (n1 (.ld 3 true) (x 2)))) (q (h 5 (.alloc [.int .i64 0,.int .i64 0,.slice none
 0 0,.slice none 0 0]) .nil) (.hv [] [] [] none (.st 4) (c2 (x 5) (x 11))))) (q (q (h 12 (.bSl [.int .i64 0] 1 [0]) (c1 (i 1))) (s [(6,x 12)])) (q (q (s
 [(15,i 0),(14,n1 .len (x 1)),(13,x 1)]) (.block 0 (.loop (q (.cond (b .lss (x 15) (x 14)) .skip (.exit 0)) (q (.block 1 (q (s [(7,ld (n2 (.iAddr 1) (x
 13) (x 15)))]) (q (cl 16 152 (c (n1 (.ld 4 true) (x 5)) (c3 (x 6) (x 7) (i 0)))) (s [(6,x 16)])))) (s [(15,b .add (x 15) (i 1))])))))) (q (s [(4,i 0),(3,
 x 6)]) .ret))))))
def cf104:CF:=⟨2,17,[(.var 3),(.var 4)],bd104,.plain⟩
def tr104:List Nat:=[0,1,2,4,5,6,7,9,11,13,16,23,24,25,26,27,34]
def bd105:Stm:=
 q (q (h 2 .box (c1 (x 0))) (s [(3,.cst (.bool false))])) (q (q (cl 6 100 (c1 (n1 (.ld 3 true) (x 2)))) (.cond (n1 (.un .not) (x 6)) (q (s [(3,.cst (.bool
 false))]) .ret) .skip)) (q (q (s [(9,i 0),(8,n1 .len (x 1)),(7,x 1)]) (.block 0 (.loop (q (.cond (b .lss (x 9) (x 8)) .skip (.exit 0)) (q (.block 1 (q (s
 [(4,ld (n2 (.iAddr 1) (x 7) (x 9)))]) (q (s [(5,n1 .len (x 4))]) (q (.hv [(10,p (b .gtr (x 5) (i 4097)) (.cst (.bool true)) (p (b .gtr (x 5) (i 0)) (b .eql
 (ld (n2 (.iAddr 1) (x 4) (b .sub (x 5) (i 1)))) (i 0)) (.cst (.bool false))))] [] [(p (b .gtr (x 5) (i 4097)) (.cst (.bool true)) (p (b .gtr (x 5) (i 0)) (b
 .eql (ld (n2 (.iAddr 1) (x 4) (b .sub (x 5) (i 1)))) (i 0)) (.cst (.bool false))),false)] (some 11) (.call false) (c3 (.cst (.func (.func 151) #[] #[])) (n1
 (.ld 3 true) (x 2)) (x 4))) (.cond (p (x 10) (.cst (.bool true)) (n1 (.un .not) (x 11))) (q (s [(3,.cst (.bool false))]) .ret) .skip))))) (s [(9,b .add (x
 9) (i 1))])))))) (q (s [(3,.cst (.bool true))]) .ret)))
def cf105:CF:=⟨2,12,[(.var 3)],bd105,.plain⟩
def tr105:List Nat:=[0,1,2,4,6,7,9,11,12,13,33,36]
def bd106:Stm:=
 q (q (h 1 .box (c1 (x 0))) (h 2 (.alloc [.int .i64 0,.int .i64 0,.slice none 0 0,.slice none 0 0]) .nil)) (q (q (cl 7 114 (c1 (n1 (.ld 3 true) (x 1))))
 (.sets [(3,ix 0 (x 7))] [ix 1 (x 7)])) (q (q (.hv [(11,ld (fa 1 (x 1))),(9,ld (fa 1 (x 1))),(8,ld (fa 0 (x 1)))] [] [] (some 10) (.mkSl [.int .i64 0])
 (c2 (b .sub (ld (fa 1 (x 1))) (i 1)) (b .sub (ld (fa 1 (x 1))) (i 1)))) (q (h 12 (.mkSl [.int .i64 0]) (c2 (x 11) (x 11))) (q (.hv [(13,.node (.build [.int
 .i64 0,.int .i64 0,.slice none 0 0,.slice none 0 0] [(0,1),(1,1),(2,1),(3,1)]) (c (x 8) (c3 (x 9) (x 10) (x 12))))] [] [] (some 4) (.alloc [.int
 .i64 0,.int .i64 0,.slice none 0 0,.slice none 0 0]) .nil) (.hv [] [] [] none (.st 4) (c2 (x 4) (x 13)))))) (q (s [(5,i 1)]) (q (q (s [(15,i 0),(14,n1
 .len (ld (fa 2 (x 4))))]) (.block 0 (.loop (q (.cond (b .lss (x 15) (x 14)) .skip (.exit 0)) (q (.block 1 (q (s [(6,x 15)]) (q (q (.hv [(20,n2 (.iAddr 1)
 (ld (fa 2 (x 4))) (x 6)),(19,x 6),(18,x 5),(17,ld (fa 3 (x 4))),(16,fa 3 (x 4))] [] [] none (.st 1) (c2 (n2 (.iAddr 1) (ld (fa 2 (x 4))) (x 6)) (x
 5))) (q (.hv [] [] [] none (.st 1) (c2 (n2 (.iAddr 1) (x 17) (x 18)) (x 19))) (.dist (x 20) (x 16)))) (q (cl 21 115 (c3 (n1 (.ld 3 true) (x 1)) (x 5) (x 3)))
 (.sets [(5,ix 0 (x 21))] [ix 1 (x 21)]))))) (s [(15,b .add (x 15) (i 1))])))))) (q (.hv [] [] [] none (.st 4) (c2 (x 2) (n1 (.ld 4 true) (x 4)))) .ret)))))
def cf106:CF:=⟨1,22,[(.node (.ld 4 true) (.cons (.var 2) .nil))],bd106,.plain⟩
def tr106:List Nat:=[0,1,2,3,5,6,7,10,14,16,20,22,23,24,27,28,34,35,36,38,39,45]
def bd107:Stm:=
 q (q (h 3 .box (c1 (x 0))) (s [(5,.cst (.slice none 0 0)),(4,.cst (.slice none 0 0))])) (q (q (h 11 (.app 1 [.int .i64 0]) (c2 (.cst (.slice none 0 0)) (x
 1))) (s [(5,x 11)])) (q (s [(6,b .sub (n1 .len (x 2)) (i 1))]) (q (.cond (b .gtr (n1 .len (x 1)) (x 6)) (q (h 12 (.mkSl [.int .i64 0]) (c2 (b .sub (n1 .len
 (x 1)) (x 6)) (b .sub (n1 .len (x 1)) (x 6)))) (s [(4,x 12)])) .skip) (q (q (s [(7,b .sub (n1 .len (x 4)) (i 1))]) (.block 0 (.loop (q (.cond (b .geq (x 7)
 (i 0)) .skip (.exit 0)) (q (.block 1 (q (q (h 13 .callC (c (.cst (.func (.func 153) #[] #[])) (c3 (n1 (.ld 4 true) (x 3)) (ld (n2 (.iAddr 1) (x 5) (b .add (x
 7) (x 6)))) (ld (n2 (.iAddr 1) (x 2) (x 6)))))) (s [(8,x 13)])) (q (.hv [] [] [] none (.st 1) (c2 (n2 (.iAddr 1) (x 4) (x 7)) (x 8))) (q (s [(16,i 0),(15,
 n1 .len (x 2)),(14,x 2)]) (.block 2 (.loop (q (.cond (b .lss (x 16) (x 15)) .skip (.exit 2)) (q (.block 3 (q (s [(10,ld (n2 (.iAddr 1) (x 14) (x 16))),(9,
 x 16)]) (q (.hv [(20,ld (n2 (.iAddr 1) (x 5) (b .add (x 7) (x 9)))),(19,n1 (.ld 4 true) (x 3)),(18,b .add (x 7) (x 9)),(17,x 5)] [] [] (some 21) (.call
 true) (c (.cst (.func (.func 155) #[] #[])) (c3 (n1 (.ld 4 true) (x 3)) (x 8) (x 10)))) (q (h 22 .callC (c (.cst (.func (.func 154) #[] #[])) (c3 (x 19) (x
 20) (x 21)))) (.hv [] [] [] none (.st 1) (c2 (n2 (.iAddr 1) (x 17) (x 18)) (x 22))))))) (s [(16,b .add (x 16) (i 1))]))))))))) (s [(7,b .sub (x 7) (i
 1))])))))) (q (q (.hv [(23,x 4)] [] [] (some 24) (.call false) (c2 (.cst (.func (.func 62) #[] #[])) (x 5))) (s [(5,x 24),(4,x 23)])) .ret)))))
def cf107:CF:=⟨3,25,[(.var 4),(.var 5)],bd107,.plain⟩
def tr107:List Nat:=[0,1,2,3,6,7,8,9,10,11,12,14,26,45,50,51,52,57,60,61,67,71,72,75,77]
def bd108:Stm:=
 q (q (h 2 .box (c1 (x 0))) (s [(3,.cst (.bool false))])) (q (q (cl 5 100 (c1 (n1 (.ld 3 true) (x 2)))) (.cond (n1 (.un .not) (x 5)) (q (s [(3,.cst (.bool
 false))]) .ret) .skip)) (q (q (s [(8,i 0),(7,n1 .len (x 1)),(6,x 1)]) (.block 0 (.loop (q (.cond (b .lss (x 8) (x 7)) .skip (.exit 0)) (q (.block 1 (q (s
 [(4,ld (n2 (.iAddr 1) (x 6) (x 8)))]) (.cond (p (b .lss (x 4) (i 0)) (.cst (.bool true)) (b .geq (x 4) (ld (fa 1 (x 2))))) (q (s [(3,.cst (.bool false))])
 .ret) .skip))) (s [(8,b .add (x 8) (i 1))])))))) (q (s [(3,.cst (.bool true))]) .ret)))
def cf108:CF:=⟨2,9,[(.var 3)],bd108,.plain⟩
def tr108:List Nat:=[0,1,2,4,6,8,10,11,12]
def bd114:Stm:=
 q (q (h 1 .box (c1 (x 0))) (s [(3,i 0),(2,i 0)])) (q (q (cl 4 108 (c2 (n1 (.ld 3 true) (x 1)) (.cst (.slice none 0 0)))) (.cond (n1 (.un .not) (x 4)) (q (s
 [(3,i 1),(2,i 0)]) .ret) .skip)) (q (q (cl 5 161 (c1 (n1 (.ld 3 true) (x 1)))) (s [(3,i 0),(2,x 5)])) .ret))
def cf114:CF:=⟨1,6,[(.var 2),(.var 3)],bd114,.plain⟩
def tr114:List Nat:=[0,1,2,3,5,8]
def bd115:Stm:=
 q (q (h 3 .box (c1 (x 0))) (s [(5,i 0),(4,i 0)])) (q (q (.hv [(6,n1 (.ld 3 true) (x 3))] [] [] (some 7) (.bSl [.int .i64 0] 2 [0,1]) (c2 (x 1) (x 2))) (q
 (cl 8 108 (c2 (x 6) (x 7))) (.cond (n1 (.un .not) (x 8)) (q (s [(5,i 1),(4,i 0)]) .ret) .skip))) (q (q (cl 9 162 (c3 (n1 (.ld 3 true) (x 3)) (x 1) (x 2)))
 (s [(5,i 0),(4,x 9)])) .ret))
def cf115:CF:=⟨3,10,[(.var 4),(.var 5)],bd115,.plain⟩
def tr115:List Nat:=[0,1,2,3,6,7,8,11,12,17]
def bd116:Stm:=
 q (s [(1,.cst (.bool false))]) (q (q (.hv [(2,x 0)] [] [] (some 3) .callC (c (.cst (.func (.func 163) #[] #[])) (c3 (n1 (.ld 4 true) (fa 0 (n1 .nilChk (x
 0)))) (n1 (.ld 5 true) (fa 4 (n1 .nilChk (x 0)))) (ld (fa 9 (n1 .nilChk (x 0))))))) (.hv [] [] [] none (.st 1) (c2 (fa 12 (n1 .nilChk (x 2))) (x 3)))) (q (s
 [(1,b .leq (ld (fa 11 (n1 .nilChk (x 0)))) (ld (fa 3 (fa 4 (n1 .nilChk (x 0))))))]) .ret))
def cf116:CF:=⟨1,4,[(.var 1)],bd116,.plain⟩
def tr116:List Nat:=[0,2,3,16]
def bd117:Stm:=
 q (s [(1,.cst (.bool false))]) (q (q (.hv [(4,x 0)] [] [] (some 5) (.bSl [.int .i64 0] 1 [0]) (c1 (i 1))) (.hv [] [] [] none (.st 1) (c2 (fa 13 (n1 .nilChk (x
 4))) (x 5)))) (q (q (s [(8,i 0),(7,n1 .len (ld (fa 10 (n1 .nilChk (x 0))))),(6,ld (fa 10 (n1 .nilChk (x 0))))]) (.block 0 (.loop (q (.cond (b .lss (x 8)
 (x 7)) .skip (.exit 0)) (q (.block 1 (q (s [(3,ld (n2 (.iAddr 1) (x 6) (x 8))),(2,x 8)]) (.cond (x 3) (q (.hv [(13,n1 (.ld 4 true) (fa 0 (n1 .nilChk (x
 0)))),(12,ld (fa 13 (n1 .nilChk (x 0)))),(11,ld (fa 13 (n1 .nilChk (x 0)))),(10,n1 (.ld 4 true) (fa 0 (n1 .nilChk (x 0)))),(9,x 0)] [] [] (some 14)
 (.call true) (c3 (.cst (.func (.func 165) #[] #[])) (x 0) (x 2))) (q (h 15 (.call true) (c3 (.cst (.func (.func 103) #[] #[])) (x 13) (x 14))) (q (h 16 .callC
 (c (.cst (.func (.func 164) #[] #[])) (c (x 10) (c (x 11) (c3 (x 12) (i 1) (x 15)))))) (.hv [] [] [] none (.st 1) (c2 (fa 13 (n1 .nilChk (x 9))) (x 16))))))
 .skip))) (s [(8,b .add (x 8) (i 1))])))))) (q (s [(1,.cst (.bool true))]) .ret)))
def cf117:CF:=⟨1,17,[(.var 1)],bd117,.plain⟩
def tr117:List Nat:=[0,2,3,4,5,6,12,13,14,20,24,28,32,36,39,40,41]
def bd118:Stm:=
 q (s [(1,.cst (.bool false))]) (q (q (h 3 .callC (c (.cst (.func (.func 166) #[] #[])) (c (n1 (.ld 4 true) (fa 0 (n1 .nilChk (x 0)))) (c3 (ld (fa 12 (n1
 .nilChk (x 0)))) (ld (fa 13 (n1 .nilChk (x 0)))) (ld (fa 3 (fa 4 (n1 .nilChk (x 0))))))))) (s [(2,x 3)])) (q (q (.hv [(4,x 0)] [] [] (some 5) .callC (c3
 (.cst (.func (.func 167) #[] #[])) (n1 (.ld 4 true) (fa 0 (n1 .nilChk (x 0)))) (n2 (.sl 1 true false false) (x 2) (ld (fa 11 (n1 .nilChk (x 0))))))) (.hv []
 [] [] none (.st 1) (c2 (fa 14 (n1 .nilChk (x 4))) (x 5)))) (q (s [(1,b .leq (b .add (b .mul (i 2) (b .sub (n1 .len (ld (fa 14 (n1 .nilChk (x 0))))) (i 1)))
 (ld (fa 11 (n1 .nilChk (x 0))))) (ld (fa 3 (fa 4 (n1 .nilChk (x 0))))))]) .ret)))
def cf118:CF:=⟨1,6,[(.var 1)],bd118,.plain⟩
def tr118:List Nat:=[0,2,3,21,22,33]
def bd119:Stm:=
 q (s [(1,.cst (.bool false))]) (q (s [(2,i 0)]) (q (q (s [(8,i 0),(7,n1 .len (ld (fa 10 (n1 .nilChk (x 0))))),(6,ld (fa 10 (n1 .nilChk (x 0))))]) (.block
 0 (.loop (q (.cond (b .lss (x 8) (x 7)) .skip (.exit 0)) (q (.block 1 (q (s [(4,ld (n2 (.iAddr 1) (x 6) (x 8))),(3,x 8)]) (q (q (.hv [(10,b .sub (ld (fa 1
 (fa 0 (n1 .nilChk (x 0))))) (i 1)),(9,n1 (.ld 4 true) (fa 0 (n1 .nilChk (x 0))))] [] [] (some 11) (.call true) (c3 (.cst (.func (.func 165) #[] #[])) (x 0)
 (x 3))) (q (h 12 .callC (c3 (.cst (.func (.func 103) #[] #[])) (x 9) (b .sub (x 10) (x 11)))) (s [(5,x 12)]))) (q (.hv [(13,n1 (.un .not) (x 4))] [] [(n1
 (.un .not) (x 4),true)] (some 14) .callC (c (.cst (.func (.func 168) #[] #[])) (c3 (n1 (.ld 4 true) (fa 0 (n1 .nilChk (x 0)))) (ld (fa 14 (n1 .nilChk (x
 0)))) (x 5)))) (.cond (p (x 13) (b .eql (x 14) (i 0)) (.cst (.bool false))) (q (s [(2,b .add (x 2) (i 1))]) (q (.hv [(16,ld (fa 15 (n1 .nilChk (x 0)))),
 (15,x 0)] [] [] (some 17) (.bSl [.int .i64 0] 1 [0]) (c1 (x 3))) (q (h 18 (.app 1 [.int .i64 0]) (c2 (x 16) (x 17))) (.hv [] [] [] none (.st 1) (c2 (fa 15
 (n1 .nilChk (x 15))) (x 18)))))) (.cond (x 4) (q (.hv [(20,ld (fa 15 (n1 .nilChk (x 0)))),(19,x 0)] [] [] (some 21) (.bSl [.int .i64 0] 1 [0]) (c1 (x 3)))
 (q (h 22 (.app 1 [.int .i64 0]) (c2 (x 20) (x 21))) (.hv [] [] [] none (.st 1) (c2 (fa 15 (n1 .nilChk (x 19))) (x 22))))) .skip)))))) (s [(8,b .add (x 8) (i
 1))])))))) (q (s [(1,b .eql (x 2) (b .sub (n1 .len (ld (fa 14 (n1 .nilChk (x 0))))) (i 1)))]) .ret)))
def cf119:CF:=⟨1,23,[(.var 1)],bd119,.plain⟩
def tr119:List Nat:=[0,2,3,4,5,6,10,11,12,20,26,29,31,34,44,49,53,55,56,60,64,66,67]
def bd120:Stm:=
 q (s [(1,.cst (.bool false))]) (q (q (h 9 .callC (c (.cst (.func (.func 166) #[] #[])) (c (n1 (.ld 4 true) (fa 0 (n1 .nilChk (x 0)))) (c3 (ld (fa 13 (n1
 .nilChk (x 0)))) (ld (fa 14 (n1 .nilChk (x 0)))) (b .sub (b .add (n1 .len (ld (fa 13 (n1 .nilChk (x 0))))) (n1 .len (ld (fa 14 (n1 .nilChk (x 0)))))) (i
 1)))))) (s [(2,x 9)])) (q (q (h 10 .callC (c (.cst (.func (.func 166) #[] #[])) (c (n1 (.ld 4 true) (fa 0 (n1 .nilChk (x 0)))) (c3 (ld (fa 12 (n1 .nilChk (x
 0)))) (x 2) (ld (fa 3 (fa 4 (n1 .nilChk (x 0))))))))) (s [(3,x 10)])) (q (q (cl 11 169 (c2 (n1 (.ld 4 true) (fa 0 (n1 .nilChk (x 0)))) (x 2))) (s [(4,x
 11)])) (q (q (s [(14,i 0),(13,n1 .len (ld (fa 15 (n1 .nilChk (x 0))))),(12,ld (fa 15 (n1 .nilChk (x 0))))]) (.block 0 (.loop (q (.cond (b .lss (x 14) (x
 13)) .skip (.exit 0)) (q (.block 1 (q (s [(5,ld (n2 (.iAddr 1) (x 12) (x 14)))]) (q (q (.hv [(16,b .sub (ld (fa 1 (fa 0 (n1 .nilChk (x 0))))) (i 1)),(15,
 n1 (.ld 4 true) (fa 0 (n1 .nilChk (x 0))))] [] [] (some 17) (.call true) (c3 (.cst (.func (.func 165) #[] #[])) (x 0) (x 5))) (q (h 18 .callC (c3 (.cst (.func
 (.func 103) #[] #[])) (x 15) (b .sub (x 16) (x 17)))) (s [(6,x 18)]))) (q (q (.hv [(21,b .sub (b .add (ld (fa 4 (fa 4 (n1 .nilChk (x 0))))) (ld (fa 1 (fa 0
 (n1 .nilChk (x 0)))))) (i 2)),(19,n1 (.ld 4 true) (fa 0 (n1 .nilChk (x 0))))] [] [] (some 20) (.call true) (c3 (.cst (.func (.func 165) #[] #[])) (x 0) (x
 5))) (q (h 22 .callC (c3 (.cst (.func (.func 103) #[] #[])) (x 19) (b .mul (x 20) (x 21)))) (s [(7,x 22)]))) (q (q (.hv [(24,x 7),(23,n1 (.ld 4 true) (fa
 0 (n1 .nilChk (x 0))))] [] [] (some 25) (.call true) (c (.cst (.func (.func 168) #[] #[])) (c3 (n1 (.ld 4 true) (fa 0 (n1 .nilChk (x 0)))) (x 4) (x 6)))) (q
 (h 26 .callC (c (.cst (.func (.func 170) #[] #[])) (c3 (x 23) (x 24) (x 25)))) (s [(8,x 26)]))) (q (.cond (b .eql (x 8) (i 0)) (q (s [(1,.cst (.bool
 false))]) .ret) .skip) (q (.hv [(33,x 8),(31,n1 (.ld 4 true) (fa 0 (n1 .nilChk (x 0)))),(30,ld (n2 (.iAddr 1) (ld (fa 9 (n1 .nilChk (x 0)))) (x 5))),
 (29,n1 (.ld 4 true) (fa 0 (n1 .nilChk (x 0)))),(28,x 5),(27,ld (fa 9 (n1 .nilChk (x 0))))] [] [] (some 32) (.call true) (c (.cst (.func (.func 168) #[]
 #[])) (c3 (n1 (.ld 4 true) (fa 0 (n1 .nilChk (x 0)))) (x 3) (x 6)))) (q (h 34 (.call true) (c (.cst (.func (.func 172) #[] #[])) (c3 (x 31) (x 32) (x 33))))
 (q (h 35 (.call true) (c (.cst (.func (.func 171) #[] #[])) (c3 (x 29) (x 30) (x 34)))) (.hv [] [] [] none (.st 1) (c2 (n2 (.iAddr 1) (x 27) (x 28)) (x
 35)))))))))))) (s [(14,b .add (x 14) (i 1))])))))) (q (s [(1,.cst (.bool true))]) .ret)))))
def cf120:CF:=⟨1,36,[(.var 1)],bd120,.plain⟩
def tr120:List Nat:=[0,2,3,4,5,7,8,9,10,35,50,56,60,61,62,69,75,78,80,84,87,99,101,105,106,113,114,120,121,125,132,136,143,144,145,146]
def bd121:Stm:=
 q (s [(1,.cst (.bool false))]) (q (q (q (.hv [(5,i 0)] [] [] (some 3) .callC (c (.cst (.func (.func 163) #[] #[])) (c3 (n1 (.ld 4 true) (fa 0 (n1 .nilChk (x
 0)))) (n1 (.ld 5 true) (fa 4 (n1 .nilChk (x 0)))) (ld (fa 9 (n1 .nilChk (x 0))))))) (s [(4,n1 .len (x 3))])) (.block 0 (.loop (q (.cond (b .lss (x 5) (x 4))
 .skip (.exit 0)) (q (.block 1 (q (s [(2,ld (n2 (.iAddr 1) (x 3) (x 5)))]) (.cond (b .neq (x 2) (i 0)) (q (s [(1,.cst (.bool false))]) .ret) .skip))) (s [(5,
 b .add (x 5) (i 1))])))))) (q (s [(1,.cst (.bool true))]) .ret))
def cf121:CF:=⟨1,6,[(.var 1)],bd121,.plain⟩
def tr121:List Nat:=[0,2,4,17,18,19]
def bd128:Stm:=
 q (h 2 (.alloc [.slice none 0 0,.slice none 0 0,.slice none 0 0,.slice none 0 0,.slice none 0 0,.slice none 0 0,.slice none 0 0,.slice none 0 0,.slice
 none 0 0,.slice none 0 0,.slice none 0 0,.slice none 0 0,.slice none 0 0,.slice none 0 0,.slice none 0 0,.slice none 0 0,.slice none 0 0,.slice none
 0 0,.slice none 0 0]) .nil) (q (q (s [(9,i 0)]) (.block 0 (.loop (q (.cond (b .lss (x 9) (i 19)) .skip (.exit 0)) (q (.block 1 (q (s [(3,x 9)]) (q (.hv
 [(10,x 3)] [] [] (some 11) (.call false) (c (.cst (.func (.func 176) #[] #[])) (c3 (x 0) (x 1) (x 3)))) (.hv [] [] [] none (.st 1) (c2 (n2 (.iAddrA 19 1) (x
 2) (x 10)) (x 11)))))) (s [(9,b .add (x 9) (i 1))])))))) (q (s [(4,.cst (.bool true))]) (.block 2 (.loop (q (.cond (x 4) .skip (.exit 2)) (.block 3 (q (s
 [(4,.cst (.bool false))]) (q (s [(13,i 0),(12,n1 (.ld 19 true) (x 2))]) (.block 4 (.loop (q (.cond (b .lss (x 13) (i 19)) .skip (.exit 4)) (q (.block 5 (q
 (s [(6,n2 (.idx 19 1 false) (x 12) (x 13)),(5,x 13)]) (q (s [(16,i 0),(15,n1 .len (x 6)),(14,x 6)]) (.block 6 (.loop (q (.cond (b .lss (x 16) (x 15))
 .skip (.exit 6)) (q (.block 7 (q (q (.hv [(17,n1 (.ld 7 true) (n2 (.iAddr 7) (x 14) (x 16)))] [] [] (some 7) (.alloc [.int .i64 0,.int .i64 0,.int .i64 0,
 .int .i64 0,.int .i64 0,.int .i64 0,.int .i64 0]) .nil) (.hv [] [] [] none (.st 7) (c2 (x 7) (x 17)))) (q (q (cl 18 177 (c2 (x 0) (n1 (.ld 7 true) (x 7))))
 (s [(8,x 18)])) (.cond (b .lss (x 8) (ld (n2 (.iAddrA 19 1) (n2 (.iAddr 19) (ld (fa 1 (n1 .nilChk (x 0)))) (x 1)) (x 5)))) (q (.hv [] [] [] none (.st 1) (c2
 (n2 (.iAddrA 19 1) (n2 (.iAddr 19) (ld (fa 1 (n1 .nilChk (x 0)))) (x 1)) (x 5)) (x 8))) (s [(4,.cst (.bool true))])) .skip)))) (s [(16,b .add (x 16) (i
 1))])))))))) (s [(13,b .add (x 13) (i 1))])))))))))))))
def cf128:CF:=⟨2,19,[],bd128,.plain⟩
def tr128:List Nat:=[0,1,4,5,6,7,8,10,11,12,15,19,23,24,28,29,30,33,36]
def bd129:Stm:=
 q (h 3 (.alloc [.int .i64 0,.int .i64 0,.int .i64 0,.int .i64 0,.int .i64 0,.int .i64 0,.int .i64 0]) .nil) (q (h 4 (.alloc [.int .i64 0,.int .i64 0,
 .int .i64 0,.int .i64 0,.int .i64 0,.int .i64 0,.int .i64 0]) .nil) (q (q (q (cl 6 176 (c3 (x 0) (x 1) (x 2))) (s [(8,i 0),(7,n1 .len (x 6))])) (.block
 0 (.loop (q (.cond (b .lss (x 8) (x 7)) .skip (.exit 0)) (q (.block 1 (q (q (.hv [(9,n1 (.ld 7 true) (n2 (.iAddr 7) (x 6) (x 8)))] [] [] (some 5) (.alloc
 [.int .i64 0,.int .i64 0,.int .i64 0,.int .i64 0,.int .i64 0,.int .i64 0,.int .i64 0]) .nil) (.hv [] [] [] none (.st 7) (c2 (x 5) (x 9)))) (q (q (.hv
 [(11,ld (n2 (.iAddrA 19 1) (n2 (.iAddr 19) (ld (fa 1 (n1 .nilChk (x 0)))) (x 1)) (x 2)))] [] [] (some 10) (.call true) (c3 (.cst (.func (.func 177) #[] #[]))
 (x 0) (n1 (.ld 7 true) (x 5)))) (.cond (b .neq (x 10) (x 11)) (.exit 1) .skip)) (q (.hv [(12,b .eql (ld (fa 3 (x 4))) (i 0))] [] [(b .eql (ld (fa 3 (x 4)))
 (i 0),false)] (some 13) .callC (c3 (.cst (.func (.func 178) #[] #[])) (n2 (.slA 3 1 false true false) (fa 0 (x 5)) (ld (fa 3 (x 5)))) (n2 (.slA 3 1 false
 true false) (fa 0 (x 4)) (ld (fa 3 (x 4)))))) (.cond (p (x 12) (.cst (.bool true)) (b .lss (x 13) (i 0))) (.hv [] [] [] none (.st 7) (c2 (x 4) (n1 (.ld 7
 true) (x 5)))) .skip))))) (s [(8,b .add (x 8) (i 1))])))))) (q (.hv [] [] [] none (.st 7) (c2 (x 3) (n1 (.ld 7 true) (x 4)))) .ret)))
def cf129:CF:=⟨3,14,[(.node (.ld 7 true) (.cons (.var 3) .nil))],bd129,.plain⟩
def tr129:List Nat:=[0,1,2,6,7,9,13,14,15,18,21,30,35,44]
def bd130:Stm:=
 q (s [(1,i 0)]) (q (s [(1,b .add (b .rem (b .mul (i 149) (b .add (x 0) (i 1))) (i 255)) (i 1))]) .ret)
def cf130:CF:=⟨1,2,[(.var 1)],bd130,.plain⟩
def tr130:List Nat:=[0,2]
def bd131:Stm:=
 q (s [(2,.cst (.slice none 0 0))]) (q (.cond (b .lss (x 1) (i 0)) (.hv [] [] [] none .pan (c1 (n1 (.mkI 9) (.cst (.string ⟨ #[99,97,110,110,111,116,32,
 98,101,32,110,101,103,97,116,105,118,101] ⟩))))) .skip) (q (q (cl 7 179 (c2 (n1 (.cvt .u64) (n1 .len (x 0))) (n1 (.cvt .u64) (x 1)))) (s [(4,ix 1
 (x 7)),(3,ix 0 (x 7))])) (q (.cond (p (b .gtr (x 3) (.cst (.int .u64 0))) (.cst (.bool true)) (b .gtr (x 4) (.cst (.int .u64 9223372036854775807)))) (.hv []
 [] [] none .pan (c1 (n1 (.mkI 9) (.cst (.string lit1))))) .skip) (q (q (h 8 (.mkSl [.int .i64 0]) (c2 (n1 (.cvt .i64) (x 4)) (n1 (.cvt .i64) (x 4)))) (s [(5,
 x 8)])) (q (q (h 9 (.cpy 1) (c2 (x 5) (x 0))) (s [(6,x 9)])) (q (.block 0 (.loop (q (.cond (b .lss (x 6) (n1 .len (x 5))) .skip (.exit 0)) (.block 1 (q (.hv
 [(10,x 6)] [] [] (some 11) (.cpy 1) (c2 (n2 (.sl 1 true false false) (x 5) (x 6)) (n2 (.sl 1 false true false) (x 5) (x 6)))) (s [(6,b .add (x 10) (x
 11))])))))) (q (s [(2,x 5)]) .ret)))))))
def cf131:CF:=⟨2,12,[(.var 2)],bd131,.plain⟩
def tr131:List Nat:=[0,1,4,5,6,7,8,18,30,33,38,45]
def bd132:Stm:=
 q (.cond (b .lss (x 1) (i 0)) (q (s [(1,b .add (x 1) (ld (fa 0 (n1 .nilChk (x 0)))))]) (s [(2,b .add (x 2) (b .sub (i 4) (b .rem (b .add (ld (fa 0 (n1 .nilChk
 (x 0)))) (i 4)) (i 8))))])) .skip) (q (.cond (b .lss (x 2) (i 0)) (q (s [(2,b .add (x 2) (ld (fa 1 (n1 .nilChk (x 0)))))]) (s [(1,b .add (x 1) (b .sub (i 4)
 (b .rem (b .add (ld (fa 1 (n1 .nilChk (x 0)))) (i 4)) (i 8))))])) .skip) (.hv [] [] [] none (.st 1) (c2 (n2 (.iAddr 1) (ld (fa 2 (n1 .nilChk (x 0)))) (b .add
 (b .mul (x 1) (ld (fa 1 (n1 .nilChk (x 0))))) (x 2))) (b .add (b .mul (i 8) (ld (fa 3 (n1 .nilChk (x 0))))) (x 3)))))
def cf132:CF:=⟨4,4,[],bd132,.plain⟩
def tr132:List Nat:=[0,1,2,3]
def bd133:Stm:=
 q (s [(5,ld (fa 1 (n1 .nilChk (x 0)))),(4,ld (fa 0 (n1 .nilChk (x 0))))]) (q (.cond (p (b .eql (x 1) (x 4)) (b .eql (x 2) (i 0)) (.cst (.bool false))) (.hv
 [] [] [] none (.call false) (c (.cst (.func (.func 180) #[] #[])) (c3 (x 0) (.node (.build [.int .i64 0,.int .i64 0,.int .i64 0,.int .i64 0,.int .i64 0,
 .int .i64 0,.int .i64 0,.int .i64 0,.int .i64 0,.int .i64 0,.int .i64 0,.int .i64 0,.int .i64 0,.int .i64 0,.int .i64 0,.int .i64 0] [(0,2),(2,
 2),(4,2),(6,2),(8,2),(10,2),(12,2),(14,2)]) (c (n2 (.build [.int .i64 0,.int .i64 0] [(0,1),(1,1)]) (b .sub (x 4) (i 1)) (i 0)) (c (n2 (.build
 [.int .i64 0,.int .i64 0] [(0,1),(1,1)]) (b .sub (x 4) (i 1)) (i 1)) (c (n2 (.build [.int .i64 0,.int .i64 0] [(0,1),(1,1)]) (b .sub (x 4) (i 1)) (i
 2)) (c (n2 (.build [.int .i64 0,.int .i64 0] [(0,1),(1,1)]) (i 0) (b .sub (x 5) (i 2))) (c (n2 (.build [.int .i64 0,.int .i64 0] [(0,1),(1,1)]) (i 0)
 (b .sub (x 5) (i 1))) (c3 (n2 (.build [.int .i64 0,.int .i64 0] [(0,1),(1,1)]) (i 1) (b .sub (x 5) (i 1))) (n2 (.build [.int .i64 0,.int .i64 0] [(0,1),
 (1,1)]) (i 2) (b .sub (x 5) (i 1))) (n2 (.build [.int .i64 0,.int .i64 0] [(0,1),(1,1)]) (i 3) (b .sub (x 5) (i 1)))))))))) (x 3)))) .skip) (q (.cond (p
 (p (b .eql (x 1) (b .sub (x 4) (i 2))) (b .eql (x 2) (i 0)) (.cst (.bool false))) (b .neq (b .rem (x 5) (i 4)) (i 0)) (.cst (.bool false))) (.hv [] [] [] none
 (.call false) (c (.cst (.func (.func 180) #[] #[])) (c3 (x 0) (.node (.build [.int .i64 0,.int .i64 0,.int .i64 0,.int .i64 0,.int .i64 0,.int .i64 0,
 .int .i64 0,.int .i64 0,.int .i64 0,.int .i64 0,.int .i64 0,.int .i64 0,.int .i64 0,.int .i64 0,.int .i64 0,.int .i64 0] [(0,2),(2,2),(4,2),(6,
 2),(8,2),(10,2),(12,2),(14,2)]) (c (n2 (.build [.int .i64 0,.int .i64 0] [(0,1),(1,1)]) (b .sub (x 4) (i 3)) (i 0)) (c (n2 (.build [.int .i64 0,
 .int .i64 0] [(0,1),(1,1)]) (b .sub (x 4) (i 2)) (i 0)) (c (n2 (.build [.int .i64 0,.int .i64 0] [(0,1),(1,1)]) (b .sub (x 4) (i 1)) (i 0)) (c (n2
 (.build [.int .i64 0,.int .i64 0] [(0,1),(1,1)]) (i 0) (b .sub (x 5) (i 4))) (c (n2 (.build [.int .i64 0,.int .i64 0] [(0,1),(1,1)]) (i 0) (b .sub (x
 5) (i 3))) (c3 (n2 (.build [.int .i64 0,.int .i64 0] [(0,1),(1,1)]) (i 0) (b .sub (x 5) (i 2))) (n2 (.build [.int .i64 0,.int .i64 0] [(0,1),(1,1)])
 (i 0) (b .sub (x 5) (i 1))) (n2 (.build [.int .i64 0,.int .i64 0] [(0,1),(1,1)]) (i 1) (b .sub (x 5) (i 1)))))))))) (x 3)))) .skip) (q (.cond (p (p (b
 .eql (x 1) (b .sub (x 4) (i 2))) (b .eql (x 2) (i 0)) (.cst (.bool false))) (b .eql (b .rem (x 5) (i 8)) (i 4)) (.cst (.bool false))) (.hv [] [] [] none
 (.call false) (c (.cst (.func (.func 180) #[] #[])) (c3 (x 0) (.node (.build [.int .i64 0,.int .i64 0,.int .i64 0,.int .i64 0,.int .i64 0,.int .i64 0,
 .int .i64 0,.int .i64 0,.int .i64 0,.int .i64 0,.int .i64 0,.int .i64 0,.int .i64 0,.int .i64 0,.int .i64 0,.int .i64 0] [(0,2),(2,2),(4,2),(6,
 2),(8,2),(10,2),(12,2),(14,2)]) (c (n2 (.build [.int .i64 0,.int .i64 0] [(0,1),(1,1)]) (b .sub (x 4) (i 3)) (i 0)) (c (n2 (.build [.int .i64 0,
 .int .i64 0] [(0,1),(1,1)]) (b .sub (x 4) (i 2)) (i 0)) (c (n2 (.build [.int .i64 0,.int .i64 0] [(0,1),(1,1)]) (b .sub (x 4) (i 1)) (i 0)) (c (n2
 (.build [.int .i64 0,.int .i64 0] [(0,1),(1,1)]) (i 0) (b .sub (x 5) (i 2))) (c (n2 (.build [.int .i64 0,.int .i64 0] [(0,1),(1,1)]) (i 0) (b .sub (x
 5) (i 1))) (c3 (n2 (.build [.int .i64 0,.int .i64 0] [(0,1),(1,1)]) (i 1) (b .sub (x 5) (i 1))) (n2 (.build [.int .i64 0,.int .i64 0] [(0,1),(1,1)])
 (i 2) (b .sub (x 5) (i 1))) (n2 (.build [.int .i64 0,.int .i64 0] [(0,1),(1,1)]) (i 3) (b .sub (x 5) (i 1)))))))))) (x 3)))) .skip) (.cond (p (p (b .eql
 (x 1) (b .add (x 4) (i 4))) (b .eql (x 2) (i 2)) (.cst (.bool false))) (b .eql (b .rem (x 5) (i 8)) (i 0)) (.cst (.bool false))) (.hv [] [] [] none (.call
 false) (c (.cst (.func (.func 180) #[] #[])) (c3 (x 0) (.node (.build [.int .i64 0,.int .i64 0,.int .i64 0,.int .i64 0,.int .i64 0,.int .i64 0,.int .i64
 0,.int .i64 0,.int .i64 0,.int .i64 0,.int .i64 0,.int .i64 0,.int .i64 0,.int .i64 0,.int .i64 0,.int .i64 0] [(0,2),(2,2),(4,2),(6,2),(8,
 2),(10,2),(12,2),(14,2)]) (c (n2 (.build [.int .i64 0,.int .i64 0] [(0,1),(1,1)]) (b .sub (x 4) (i 1)) (i 0)) (c (n2 (.build [.int .i64 0,.int .i64
 0] [(0,1),(1,1)]) (b .sub (x 4) (i 1)) (b .sub (x 5) (i 1))) (c (n2 (.build [.int .i64 0,.int .i64 0] [(0,1),(1,1)]) (i 0) (b .sub (x 5) (i 3))) (c (n2
 (.build [.int .i64 0,.int .i64 0] [(0,1),(1,1)]) (i 0) (b .sub (x 5) (i 2))) (c (n2 (.build [.int .i64 0,.int .i64 0] [(0,1),(1,1)]) (i 0) (b .sub (x
 5) (i 1))) (c3 (n2 (.build [.int .i64 0,.int .i64 0] [(0,1),(1,1)]) (i 1) (b .sub (x 5) (i 3))) (n2 (.build [.int .i64 0,.int .i64 0] [(0,1),(1,1)])
 (i 1) (b .sub (x 5) (i 2))) (n2 (.build [.int .i64 0,.int .i64 0] [(0,1),(1,1)]) (i 1) (b .sub (x 5) (i 1)))))))))) (x 3)))) .skip))))
def cf133:CF:=⟨4,6,[],bd133,.plain⟩
def tr133:List Nat:=[0,1,2,3,8,9]
def bd134:Stm:=
 q (s [(3,.cst (.bool false))]) (q (s [(3,p (p (p (p (b .geq (x 1) (i 0)) (b .lss (x 1) (ld (fa 0 (n1 .nilChk (x 0))))) (.cst (.bool false))) (b .geq (x 2) (i
 0)) (.cst (.bool false))) (b .lss (x 2) (ld (fa 1 (n1 .nilChk (x 0))))) (.cst (.bool false))) (b .lss (ld (n2 (.iAddr 1) (ld (fa 2 (n1 .nilChk (x 0)))) (b
 .add (b .mul (x 1) (ld (fa 1 (n1 .nilChk (x 0))))) (x 2)))) (i 0)) (.cst (.bool false)))]) .ret)
def cf134:CF:=⟨3,4,[(.var 3)],bd134,.plain⟩
def tr134:List Nat:=[0,1,2,6]
def bd135:Stm:=
 .hv [] [] [] none (.call false) (c (.cst (.func (.func 180) #[] #[])) (c3 (x 0) (.node (.build [.int .i64 0,.int .i64 0,.int .i64 0,.int .i64 0,.int .i64 0,
 .int .i64 0,.int .i64 0,.int .i64 0,.int .i64 0,.int .i64 0,.int .i64 0,.int .i64 0,.int .i64 0,.int .i64 0,.int .i64 0,.int .i64 0] [(0,2),(2,
 2),(4,2),(6,2),(8,2),(10,2),(12,2),(14,2)]) (c (n2 (.build [.int .i64 0,.int .i64 0] [(0,1),(1,1)]) (b .sub (x 1) (i 2)) (b .sub (x 2) (i 2)))
 (c (n2 (.build [.int .i64 0,.int .i64 0] [(0,1),(1,1)]) (b .sub (x 1) (i 2)) (b .sub (x 2) (i 1))) (c (n2 (.build [.int .i64 0,.int .i64 0] [(0,1),(1,
 1)]) (b .sub (x 1) (i 1)) (b .sub (x 2) (i 2))) (c (n2 (.build [.int .i64 0,.int .i64 0] [(0,1),(1,1)]) (b .sub (x 1) (i 1)) (b .sub (x 2) (i 1))) (c (n2
 (.build [.int .i64 0,.int .i64 0] [(0,1),(1,1)]) (b .sub (x 1) (i 1)) (x 2)) (c3 (n2 (.build [.int .i64 0,.int .i64 0] [(0,1),(1,1)]) (x 1) (b .sub (x
 2) (i 2))) (n2 (.build [.int .i64 0,.int .i64 0] [(0,1),(1,1)]) (x 1) (b .sub (x 2) (i 1))) (n2 (.build [.int .i64 0,.int .i64 0] [(0,1),(1,1)]) (x 1)
 (x 2))))))))) (x 3)))
def cf135:CF:=⟨4,4,[],bd135,.plain⟩
def tr135:List Nat:=[0,1,2,3]
def bd138:Stm:=
 q (s [(1,i 0)]) (q (.cond (b .geq (ld (fa 1 (n1 .nilChk (x 0)))) (n1 .len (ld (fa 0 (n1 .nilChk (x 0)))))) (q (s [(1,i 10)]) .ret) .skip) (q (s [(2,ld (n2
 (.iAddr 1) (ld (fa 0 (n1 .nilChk (x 0)))) (ld (fa 1 (n1 .nilChk (x 0))))))]) (q (.cond (p (b .lss (x 2) (i 1)) (.cst (.bool true)) (b .gtr (x 2) (i 128))) (q
 (s [(1,i 22)]) .ret) .skip) (q (.hv [] [] [] none (.st 1) (c2 (fa 1 (n1 .nilChk (x 0))) (b .add (ld (fa 1 (n1 .nilChk (x 0)))) (i 1)))) (q (q (.hv [(4,ld
 (fa 2 (n1 .nilChk (x 0)))),(3,x 0)] [] [] (some 5) (.bSl [.int .u8 0] 1 [0]) (c1 (n1 (.cvt .u8) (b .add (x 2) (i 127))))) (q (h 6 (.app 1 [.int .u8 0]) (c2
 (x 4) (x 5))) (.hv [] [] [] none (.st 1) (c2 (fa 2 (n1 .nilChk (x 3))) (x 6))))) (q (s [(1,i 0)]) .ret))))))
def cf138:CF:=⟨1,7,[(.var 1)],bd138,.plain⟩
def tr138:List Nat:=[0,2,3,37,41,45,46]
def bd139:Stm:=
 q (s [(2,i 0)]) (q (s [(4,.cst (.bool false)),(3,i 0)]) (.block 0 (.loop (.block 1 (q (q (cl 11 182 (c1 (x 0))) (q (.hv [(14,ix 2 (x 11)),(13,ix 1 (x
 11)),(12,ix 0 (x 11))] [] [] (some 5) (.alloc [.int .i64 0,.int .i64 0,.int .i64 0]) .nil) (q (.hv [] [] [] none (.st 3) (c2 (x 5) (x 12))) (s [(7,x 14),
 (6,x 13)])))) (q (.cond (p (b .neq (x 7) (i 0)) (.cst (.bool true)) (x 6)) (q (s [(2,x 7)]) .ret) .skip) (q (s [(16,i 0),(15,n1 (.ld 3 true) (x 5))])
 (.block 2 (.loop (q (.cond (b .lss (x 16) (i 3)) .skip (.exit 2)) (q (.block 3 (q (s [(8,n2 (.idx 3 1 false) (x 15) (x 16))]) (q (.cond (p (b .eql (x 3) (i
 0)) (b .leq (x 8) (i 2)) (.cst (.bool false))) (q (s [(3,b .add (x 8) (i 1))]) (.exit 3)) .skip) (q (.cond (p (p (b .eql (x 3) (i 2)) (b .eql (x 8) (i 30))
 (.cst (.bool false))) (n1 (.un .not) (x 4)) (.cst (.bool false))) (q (s [(4,.cst (.bool true)),(3,i 0)]) (.exit 3)) .skip) (q (q (cl 17 183 (c3 (x 1) (x 3)
 (x 8))) (s [(10,ix 1 (x 17)),(9,ix 0 (x 17))])) (q (.cond (n1 (.un .not) (x 10)) (q (s [(2,i 22)]) .ret) .skip) (q (.cond (x 4) (s [(9,b .add (x 9) (.cst
 (.int .u8 128)))]) .skip) (q (q (.hv [(19,ld (fa 2 (n1 .nilChk (x 0)))),(18,x 0)] [] [] (some 20) (.bSl [.int .u8 0] 1 [0]) (c1 (x 9))) (q (h 21 (.app 1
 [.int .u8 0]) (c2 (x 19) (x 20))) (.hv [] [] [] none (.st 1) (c2 (fa 2 (n1 .nilChk (x 18))) (x 21))))) (s [(4,.cst (.bool false)),(3,i 0)]))))))))) (s
 [(16,b .add (x 16) (i 1))]))))))))))))
def cf139:CF:=⟨2,22,[(.var 2)],bd139,.plain⟩
def tr139:List Nat:=[0,1,4,5,6,7,8,9,11,12,13,16,17,18,19,26,27,52,60,64,66,67]
def bd140:Stm:=
 q (s [(1,i 0)]) (q (q (cl 8 184 (c1 (x 0))) (s [(3,ix 1 (x 8)),(2,ix 0 (x 8))])) (q (.cond (n1 (.un .not) (x 3)) (q (s [(1,i 10)]) .ret) .skip) (q (.cond
 (b .eql (x 2) (i 0)) (q (s [(1,i 22)]) .ret) .skip) (q (.cond (b .geq (x 2) (i 250)) (q (q (cl 9 184 (c1 (x 0))) (s [(5,ix 1 (x 9)),(4,ix 0 (x 9))])) (q
 (.cond (n1 (.un .not) (x 5)) (q (s [(1,i 10)]) .ret) .skip) (q (.cond (b .geq (x 4) (i 250)) (q (s [(1,i 22)]) .ret) .skip) (s [(2,b .add (b .mul (i 250)
 (b .sub (x 2) (i 249))) (x 4))])))) .skip) (q (q (s [(11,i 0),(10,x 2)]) (.block 0 (.loop (q (.cond (b .lss (x 11) (x 10)) .skip (.exit 0)) (q (.block 1 (q
 (q (cl 12 184 (c1 (x 0))) (s [(7,ix 1 (x 12)),(6,ix 0 (x 12))])) (q (.cond (n1 (.un .not) (x 7)) (q (s [(1,i 10)]) .ret) .skip) (q (.hv [(14,ld (fa 2 (n1
 .nilChk (x 0)))),(13,x 0)] [] [] (some 15) (.bSl [.int .u8 0] 1 [0]) (c1 (n1 (.cvt .u8) (x 6)))) (q (h 16 (.app 1 [.int .u8 0]) (c2 (x 14) (x 15))) (.hv []
 [] [] none (.st 1) (c2 (fa 2 (n1 .nilChk (x 13))) (x 16)))))))) (s [(11,b .add (x 11) (i 1))])))))) (q (s [(1,i 0)]) .ret))))))
def cf140:CF:=⟨1,17,[(.var 1)],bd140,.plain⟩
def tr140:List Nat:=[0,2,3,4,5,6,7,8,11,22,34,35,39,44,48,51,52]
def bd141:Stm:=
 q (s [(1,i 0)]) (.block 0 (.loop (.block 1 (q (q (cl 6 182 (c1 (x 0))) (q (.hv [(9,ix 2 (x 6)),(8,ix 1 (x 6)),(7,ix 0 (x 6))] [] [] (some 2) (.alloc [.int
 .i64 0,.int .i64 0,.int .i64 0]) .nil) (q (.hv [] [] [] none (.st 3) (c2 (x 2) (x 7))) (s [(4,x 9),(3,x 8)])))) (q (.cond (p (b .neq (x 4) (i 0)) (.cst
 (.bool true)) (x 3)) (q (s [(1,x 4)]) .ret) .skip) (q (s [(11,i 0),(10,n1 (.ld 3 true) (x 2))]) (.block 2 (.loop (q (.cond (b .lss (x 11) (i 3)) .skip
 (.exit 2)) (q (.block 3 (q (s [(5,n2 (.idx 3 1 false) (x 10) (x 11))]) (q (.hv [(13,ld (fa 2 (n1 .nilChk (x 0)))),(12,x 0)] [] [] (some 14) (.call true)
 (c2 (.cst (.func (.func 185) #[] #[])) (x 5))) (q (h 15 (.bSl [.int .u8 0] 1 [0]) (c1 (x 14))) (q (h 16 (.app 1 [.int .u8 0]) (c2 (x 13) (x 15))) (.hv [] []
 [] none (.st 1) (c2 (fa 2 (n1 .nilChk (x 12))) (x 16)))))))) (s [(11,b .add (x 11) (i 1))])))))))))))
def cf141:CF:=⟨1,17,[(.var 1)],bd141,.plain⟩
def tr141:List Nat:=[0,2,3,4,5,7,10,11,12,13,20,21,24,28,30,31,32]
def bd142:Stm:=
 q (s [(1,i 0)]) (q (s [(2,i 0)]) (.block 0 (.loop (q (.block 1 (q (s [(4,b .add (ld (fa 1 (n1 .nilChk (x 0)))) (b .quo (b .add (x 2) (i 5)) (i 8))),(3,b
 .add (ld (fa 1 (n1 .nilChk (x 0)))) (b .quo (x 2) (i 8)))]) (q (.cond (b .geq (x 4) (n1 .len (ld (fa 0 (n1 .nilChk (x 0)))))) (q (s [(1,i 10)]) .ret) .skip)
 (q (s [(5,b .shl (ld (n2 (.iAddr 1) (ld (fa 0 (n1 .nilChk (x 0)))) (x 3))) (.cst (.int .u64 8)))]) (q (.cond (b .gtr (x 4) (x 3)) (s [(5,b .or (x 5) (ld (n2
 (.iAddr 1) (ld (fa 0 (n1 .nilChk (x 0)))) (x 4))))]) .skip) (q (s [(6,b .and (b .shr (x 5) (b .sub (i 10) (b .rem (x 2) (i 8)))) (i 63))]) (q (.cond (b .eql
 (x 6) (i 31)) (q (s [(7,b .rem (b .sub (i 8) (b .rem (b .add (x 2) (i 6)) (i 8))) (i 8))]) (q (.cond (b .neq (b .and (ld (n2 (.iAddr 1) (ld (fa 0 (n1 .nilChk
 (x 0)))) (x 4))) (b .sub (b .shl (i 1) (x 7)) (i 1))) (i 0)) (q (s [(1,i 22)]) .ret) .skip) (q (.hv [] [] [] none (.st 1) (c2 (fa 1 (n1 .nilChk (x 0))) (b
 .add (x 4) (i 1)))) (q (s [(1,i 0)]) .ret)))) .skip) (q (.cond (b .lss (x 6) (i 32)) (s [(6,b .add (x 6) (i 64))]) .skip) (q (.hv [(9,ld (fa 2 (n1 .nilChk
 (x 0)))),(8,x 0)] [] [] (some 10) (.bSl [.int .u8 0] 1 [0]) (c1 (n1 (.cvt .u8) (x 6)))) (q (h 11 (.app 1 [.int .u8 0]) (c2 (x 9) (x 10))) (.hv [] [] [] none
 (.st 1) (c2 (fa 2 (n1 .nilChk (x 8))) (x 11))))))))))))) (s [(2,b .add (x 2) (i 6))])))))
def cf142:CF:=⟨1,12,[(.var 1)],bd142,.plain⟩
def tr142:List Nat:=[0,2,3,4,5,6,7,8,87,91,94,95]
def bd148:Stm:=
 q (s [(1,.cst (.bool false))]) (q (q (s [(2,i 2)]) (.block 0 (.loop (q (.cond (b .leq (b .mul (x 2) (x 2)) (x 0)) .skip (.exit 0)) (q (.block 1 (.cond (b .eql
 (b .rem (x 0) (x 2)) (i 0)) (q (s [(1,.cst (.bool false))]) .ret) .skip)) (s [(2,b .add (x 2) (i 1))])))))) (q (s [(1,.cst (.bool true))]) .ret))
def cf148:CF:=⟨1,3,[(.var 1)],bd148,.plain⟩
def tr148:List Nat:=[0,2,3]
def bd149:Stm:=
 q (s [(1,i 0)]) (q (q (cl 2 189 (c1 (n1 (.cvt .u64) (x 0)))) (s [(1,b .sub (x 2) (i 1))])) .ret)
def cf149:CF:=⟨1,3,[(.var 1)],bd149,.plain⟩
def tr149:List Nat:=[0,2,5]
def bd150:Stm:=
 q (s [(1,.cst (.bool false))]) (q (q (s [(2,i 2)]) (.block 0 (.loop (q (q (cl 3 149 (c1 (x 2))) (q (.hv [(4,b .mul (i 2) (x 3))] [] [] (some 5) (.call false)
 (c2 (.cst (.func (.func 149) #[] #[])) (x 0))) (.cond (b .leq (x 4) (x 5)) .skip (.exit 0)))) (q (.block 1 (q (cl 6 190 (c2 (x 0) (x 2))) (.cond (b .eql (x 6)
 (i 0)) (q (s [(1,.cst (.bool false))]) .ret) .skip))) (s [(2,b .add (x 2) (i 1))])))))) (q (s [(1,.cst (.bool true))]) .ret))
def cf150:CF:=⟨1,7,[(.var 1)],bd150,.plain⟩
def tr150:List Nat:=[0,2,3,5,6,8,14]
def bd151:Stm:=
 q (q (h 2 .box (c1 (x 0))) (s [(3,.cst (.bool false))])) (q (q (s [(7,i 0),(6,n1 .len (x 1)),(5,x 1)]) (.block 0 (.loop (q (.cond (b .lss (x 7) (x 6))
 .skip (.exit 0)) (q (.block 1 (q (s [(4,ld (n2 (.iAddr 1) (x 5) (x 7)))]) (.cond (p (b .lss (x 4) (i 0)) (.cst (.bool true)) (b .geq (x 4) (ld (fa 1 (x
 2))))) (q (s [(3,.cst (.bool false))]) .ret) .skip))) (s [(7,b .add (x 7) (i 1))])))))) (q (s [(3,.cst (.bool true))]) .ret))
def cf151:CF:=⟨2,8,[(.var 3)],bd151,.plain⟩
def tr151:List Nat:=[0,1,2,4,6,7,8,9]
def bd152:Stm:=
 q (q (h 4 .box (c1 (x 0))) (s [(5,.cst (.slice none 0 0))])) (q (q (h 9 (.mkSl [.int .i64 0]) (c2 (b .add (n1 .len (x 1)) (i 1)) (b .add (n1 .len (x 1)) (i
 1)))) (s [(6,x 9)])) (q (.hv [] [] [] none (.st 1) (c2 (n2 (.iAddr 1) (x 6) (i 0)) (x 3))) (q (q (s [(12,i 0),(11,n1 .len (x 1)),(10,x 1)]) (.block 0
 (.loop (q (.cond (b .lss (x 12) (x 11)) .skip (.exit 0)) (q (.block 1 (q (s [(8,ld (n2 (.iAddr 1) (x 10) (x 12))),(7,x 12)]) (q (q (.hv [(16,ld (n2
 (.iAddr 1) (x 6) (x 7))),(15,n1 (.ld 4 true) (x 4)),(14,x 7),(13,x 6)] [] [] (some 17) (.call true) (c (.cst (.func (.func 155) #[] #[])) (c3 (n1 (.ld 4
 true) (x 4)) (x 8) (x 2)))) (q (h 18 .callC (c (.cst (.func (.func 154) #[] #[])) (c3 (x 15) (x 16) (x 17)))) (.hv [] [] [] none (.st 1) (c2 (n2 (.iAddr 1) (x
 13) (x 14)) (x 18))))) (.hv [] [] [] none (.st 1) (c2 (n2 (.iAddr 1) (x 6) (b .add (x 7) (i 1))) (x 8)))))) (s [(12,b .add (x 12) (i 1))])))))) (q (s [(5,x
 6)]) .ret))))
def cf152:CF:=⟨4,19,[(.var 5)],bd152,.plain⟩
def tr152:List Nat:=[0,1,2,3,4,8,9,10,11,15,19,20,21,26,27,28,32,36,37]
def bd153:Stm:=
 q (q (h 3 .box (c1 (x 0))) (s [(4,i 0)])) (q (.cond (b .eql (x 1) (i 0)) (q (s [(4,i 0)]) .ret) .skip) (q (s [(4,ld (n2 (.iAddr 1) (ld (fa 2 (x 3))) (b .rem
 (b .sub (b .add (b .sub (ld (n2 (.iAddr 1) (ld (fa 3 (x 3))) (x 1))) (ld (n2 (.iAddr 1) (ld (fa 3 (x 3))) (x 2)))) (ld (fa 1 (x 3)))) (i 1)) (b .sub (ld (fa 1
 (x 3))) (i 1)))))]) .ret))
def cf153:CF:=⟨3,5,[(.var 4)],bd153,.plain⟩
def tr153:List Nat:=[0,1,2,3,6]
def bd154:Stm:=
 q (q (h 3 .box (c1 (x 0))) (s [(4,i 0)])) (q (.cond (b .eql (ld (fa 0 (x 3))) (i 2)) (q (s [(4,b .xor (x 1) (x 2))]) .ret) .skip) (q (s [(4,b .rem (b .add (b
 .sub (x 1) (x 2)) (ld (fa 1 (x 3)))) (ld (fa 1 (x 3))))]) .ret))
def cf154:CF:=⟨3,5,[(.var 4)],bd154,.plain⟩
def tr154:List Nat:=[0,1,2,3,6]
def bd155:Stm:=
 q (q (h 3 .box (c1 (x 0))) (s [(4,i 0)])) (q (.cond (p (b .eql (x 1) (i 0)) (.cst (.bool true)) (b .eql (x 2) (i 0))) (q (s [(4,i 0)]) .ret) .skip) (q (s [(4,
 ld (n2 (.iAddr 1) (ld (fa 2 (x 3))) (b .rem (b .add (ld (n2 (.iAddr 1) (ld (fa 3 (x 3))) (x 1))) (ld (n2 (.iAddr 1) (ld (fa 3 (x 3))) (x 2)))) (b .sub (ld (fa
 1 (x 3))) (i 1)))))]) .ret))
def cf155:CF:=⟨3,5,[(.var 4)],bd155,.plain⟩
def tr155:List Nat:=[0,1,2,3,6]
def bd161:Stm:=
 q (q (h 1 .box (c1 (x 0))) (s [(2,i 0)])) (q (s [(3,i 1)]) (q (.block 0 (.loop (q (q (.hv [(5,b .sub (ld (fa 1 (x 1))) (i 1))] [] [] (some 4) (.call true)
 (c3 (.cst (.func (.func 192) #[] #[])) (n1 (.ld 3 true) (x 1)) (x 3))) (.cond (b .neq (x 4) (x 5)) .skip (.exit 0))) (.block 1 (s [(3,b .add (x 3) (i
 1))]))))) (q (s [(2,x 3)]) .ret)))
def cf161:CF:=⟨1,6,[(.var 2)],bd161,.plain⟩
def tr161:List Nat:=[0,1,2,3,6,9]
def bd162:Stm:=
 q (q (h 3 .box (c1 (x 0))) (s [(4,i 0)])) (q (.cond (b .eql (ld (fa 2 (x 3))) (i 0)) (q (s [(4,b .rem (b .mul (x 1) (x 2)) (ld (fa 1 (x 3))))]) .ret) .skip)
 (q (s [(5,i 0)]) (q (.block 0 (.loop (q (.cond (b .gtr (x 2) (i 0)) .skip (.exit 0)) (q (.block 1 (q (.cond (b .eql (b .and (x 2) (i 1)) (i 1)) (s [(5,b
 .xor (x 5) (x 1))]) .skip) (q (s [(1,b .shl (x 1) (.cst (.int .u64 1)))]) (.cond (b .geq (x 1) (ld (fa 1 (x 3)))) (s [(1,b .xor (x 1) (ld (fa 2 (x 3))))])
 .skip)))) (s [(2,b .shr (x 2) (.cst (.int .u64 1)))]))))) (q (s [(4,x 5)]) .ret))))
def cf162:CF:=⟨3,6,[(.var 4)],bd162,.plain⟩
def tr162:List Nat:=[0,1,2,3,6,7]
def bd163:Stm:=
 q (q (h 3 .box (c1 (x 0))) (q (h 4 .box (c1 (x 1))) (s [(5,.cst (.slice none 0 0))]))) (q (q (h 10 (.mkSl [.int .i64 0]) (c2 (ld (fa 3 (x 4))) (ld (fa 3 (x
 4))))) (s [(6,x 10)])) (q (q (s [(12,i 0),(11,n1 .len (x 6))]) (.block 0 (.loop (q (.cond (b .lss (x 12) (x 11)) .skip (.exit 0)) (q (.block 1 (q (s [(7,
 x 12)]) (q (q (cl 13 103 (c2 (n1 (.ld 4 true) (x 3)) (b .add (ld (fa 4 (x 4))) (x 7)))) (s [(8,x 13)])) (q (s [(16,i 0),(15,n1 .len (x 2)),(14,x 2)])
 (.block 2 (.loop (q (.cond (b .lss (x 16) (x 15)) .skip (.exit 2)) (q (.block 3 (q (s [(9,ld (n2 (.iAddr 1) (x 14) (x 16)))]) (q (.hv [(21,x 9),(19,n1
 (.ld 4 true) (x 3)),(18,x 7),(17,x 6)] [] [] (some 20) (.call true) (c (.cst (.func (.func 170) #[] #[])) (c3 (n1 (.ld 4 true) (x 3)) (ld (n2 (.iAddr 1)
 (x 6) (x 7))) (x 8)))) (q (h 22 .callC (c (.cst (.func (.func 171) #[] #[])) (c3 (x 19) (x 20) (x 21)))) (.hv [] [] [] none (.st 1) (c2 (n2 (.iAddr 1) (x 17)
 (x 18)) (x 22))))))) (s [(16,b .add (x 16) (i 1))]))))))))) (s [(12,b .add (x 12) (i 1))])))))) (q (s [(5,x 6)]) .ret)))
def cf163:CF:=⟨3,23,[(.var 5)],bd163,.plain⟩
def tr163:List Nat:=[0,1,2,3,4,6,7,8,9,11,14,16,17,25,26,27,28,32,33,34,41,42,43]
def bd164:Stm:=
 q (q (h 5 .box (c1 (x 0))) (s [(6,.cst (.slice none 0 0))])) (q (q (h 10 (.mkSl [.int .i64 0]) (c2 (n2 (.minmax true) (n1 .len (x 1)) (b .add (n1 .len (x 2))
 (x 3))) (n2 (.minmax true) (n1 .len (x 1)) (b .add (n1 .len (x 2)) (x 3))))) (s [(7,x 10)])) (q (.hv [] [] [] none (.cpy 1) (c2 (x 7) (x 1))) (q (q (s [(13,
 i 0),(12,n1 .len (x 2)),(11,x 2)]) (.block 0 (.loop (q (.cond (b .lss (x 13) (x 12)) .skip (.exit 0)) (q (.block 1 (q (s [(9,ld (n2 (.iAddr 1) (x 11) (x
 13))),(8,x 13)]) (q (.hv [(17,ld (n2 (.iAddr 1) (x 7) (b .add (x 8) (x 3)))),(16,n1 (.ld 4 true) (x 5)),(15,b .add (x 8) (x 3)),(14,x 7)] [] [] (some
 18) (.call true) (c (.cst (.func (.func 170) #[] #[])) (c3 (n1 (.ld 4 true) (x 5)) (x 4) (x 9)))) (q (h 19 .callC (c (.cst (.func (.func 193) #[] #[])) (c3 (x
 16) (x 17) (x 18)))) (.hv [] [] [] none (.st 1) (c2 (n2 (.iAddr 1) (x 14) (x 15)) (x 19))))))) (s [(13,b .add (x 13) (i 1))])))))) (q (s [(6,x 7)]) .ret))))
def cf164:CF:=⟨5,20,[(.var 6)],bd164,.plain⟩
def tr164:List Nat:=[0,1,2,3,4,5,10,11,12,13,21,25,26,27,32,35,36,42,46,47]
def bd165:Stm:=
 q (s [(2,i 0)]) (q (s [(2,b .sub (b .sub (n1 .len (ld (fa 9 (n1 .nilChk (x 0))))) (i 1)) (x 1))]) .ret)
def cf165:CF:=⟨2,3,[(.var 2)],bd165,.plain⟩
def tr165:List Nat:=[0,1,4]
def bd166:Stm:=
 q (q (h 4 .box (c1 (x 0))) (s [(5,.cst (.slice none 0 0))])) (q (q (h 10 (.mkSl [.int .i64 0]) (c2 (x 3) (x 3))) (s [(6,x 10)])) (q (q (s [(13,i 0),(12,n1
 .len (x 1)),(11,x 1)]) (.block 0 (.loop (q (.cond (b .lss (x 13) (x 12)) .skip (.exit 0)) (q (.block 1 (q (s [(8,ld (n2 (.iAddr 1) (x 11) (x 13))),(7,x
 13)]) (q (s [(9,i 0)]) (.block 2 (.loop (q (.cond (p (b .lss (x 9) (n1 .len (x 2))) (b .lss (b .add (x 7) (x 9)) (x 3)) (.cst (.bool false))) .skip (.exit
 2)) (q (.block 3 (q (.hv [(17,ld (n2 (.iAddr 1) (x 6) (b .add (x 7) (x 9)))),(16,n1 (.ld 4 true) (x 4)),(15,b .add (x 7) (x 9)),(14,x 6)] [] [] (some
 18) (.call true) (c (.cst (.func (.func 170) #[] #[])) (c3 (n1 (.ld 4 true) (x 4)) (x 8) (ld (n2 (.iAddr 1) (x 2) (x 9)))))) (q (h 19 .callC (c (.cst (.func
 (.func 171) #[] #[])) (c3 (x 16) (x 17) (x 18)))) (.hv [] [] [] none (.st 1) (c2 (n2 (.iAddr 1) (x 14) (x 15)) (x 19)))))) (s [(9,b .add (x 9) (i
 1))])))))))) (s [(13,b .add (x 13) (i 1))])))))) (q (s [(5,x 6)]) .ret)))
def cf166:CF:=⟨4,20,[(.var 5)],bd166,.plain⟩
def tr166:List Nat:=[0,1,2,3,4,8,9,10,11,12,14,15,16,17,35,38,39,45,52,53]
def bd167:Stm:=
 q (q (h 2 .box (c1 (x 0))) (s [(3,.cst (.slice none 0 0))])) (q (q (h 14 (.bSl [.int .i64 0] 1 [0]) (c1 (i 1))) (q (h 15 (.bSl [.int .i64 0] 1 [0]) (c1 (i 1)))
 (s [(5,x 15),(4,x 14)]))) (q (s [(8,i 1),(7,i 1),(6,i 0)]) (q (q (s [(17,i 0),(16,n1 .len (x 1))]) (.block 0 (.loop (q (.cond (b .lss (x 17) (x
 16)) .skip (.exit 0)) (q (.block 1 (q (s [(9,x 17)]) (q (s [(10,i 0)]) (q (q (s [(11,i 0)]) (.block 2 (.loop (q (.cond (p (b .leq (x 11) (x 6)) (b .lss (x
 11) (n1 .len (x 4))) (.cst (.bool false))) .skip (.exit 2)) (q (.block 3 (q (.hv [(19,x 10),(18,n1 (.ld 4 true) (x 2))] [] [] (some 20) (.call true) (c
 (.cst (.func (.func 170) #[] #[])) (c3 (n1 (.ld 4 true) (x 2)) (ld (n2 (.iAddr 1) (x 4) (x 11))) (ld (n2 (.iAddr 1) (x 1) (b .sub (x 9) (x 11))))))) (q (h 21
 .callC (c (.cst (.func (.func 171) #[] #[])) (c3 (x 18) (x 19) (x 20)))) (s [(10,x 21)])))) (s [(11,b .add (x 11) (i 1))])))))) (q (.cond (b .eql (x 10) (i
 0)) (q (s [(7,b .add (x 7) (i 1))]) (.exit 1)) .skip) (q (q (.hv [(25,x 7),(24,x 5),(23,x 4),(22,n1 (.ld 4 true) (x 2))] [] [] (some 26) (.call true)
 (c (.cst (.func (.func 172) #[] #[])) (c3 (n1 (.ld 4 true) (x 2)) (x 10) (x 8)))) (q (h 27 .callC (c (.cst (.func (.func 164) #[] #[])) (c (x 22) (c (x 23)
 (c3 (x 24) (x 25) (x 26)))))) (s [(12,x 27)]))) (q (.cond (b .leq (b .mul (i 2) (x 6)) (x 9)) (s [(7,i 1),(8,x 10),(6,b .sub (b .add (x 9) (i 1)) (x
 6)),(5,x 4)]) (s [(7,b .add (x 7) (i 1))])) (s [(4,x 12)])))))))) (s [(17,b .add (x 17) (i 1))])))))) (q (s [(13,n1 .len (x 4))]) (q (.block 4 (.loop (q
 (.cond (b .eql (ld (n2 (.iAddr 1) (x 4) (b .sub (x 13) (i 1)))) (i 0)) .skip (.exit 4)) (.block 5 (s [(13,b .sub (x 13) (i 1))]))))) (q (s [(3,n2 (.sl 1
 false true false) (x 4) (x 13))]) .ret))))))
def cf167:CF:=⟨2,28,[(.var 3)],bd167,.plain⟩
def tr167:List Nat:=[0,1,2,4,5,6,7,8,9,10,11,12,13,14,15,16,18,19,33,34,46,47,52,53,54,55,59,60]
def bd168:Stm:=
 q (q (h 3 .box (c1 (x 0))) (s [(4,i 0)])) (q (s [(5,i 0)]) (q (q (s [(6,b .sub (n1 .len (x 1)) (i 1))]) (.block 0 (.loop (q (.cond (b .geq (x 6) (i 0)) .skip
 (.exit 0)) (q (.block 1 (q (.hv [(9,ld (n2 (.iAddr 1) (x 1) (x 6))),(7,n1 (.ld 4 true) (x 3))] [] [] (some 8) (.call true) (c (.cst (.func (.func 170) #[]
 #[])) (c3 (n1 (.ld 4 true) (x 3)) (x 5) (x 2)))) (q (h 10 .callC (c (.cst (.func (.func 171) #[] #[])) (c3 (x 7) (x 8) (x 9)))) (s [(5,x 10)])))) (s [(6,b
 .sub (x 6) (i 1))])))))) (q (s [(4,x 5)]) .ret)))
def cf168:CF:=⟨3,11,[(.var 4)],bd168,.plain⟩
def tr168:List Nat:=[0,1,2,3,6,7,8,16,20,24,25]
def bd169:Stm:=
 q (q (h 2 .box (c1 (x 0))) (s [(3,.cst (.slice none 0 0))])) (q (s [(4,.cst (.slice none 0 0))]) (q (q (s [(5,i 1)]) (.block 0 (.loop (q (.cond (b .lss (x 5)
 (n1 .len (x 1))) .skip (.exit 0)) (q (.block 1 (q (.hv [(6,x 4)] [] [] (some 7) .callC (c (.cst (.func (.func 170) #[] #[])) (c3 (n1 (.ld 4 true) (x 2)) (b
 .rem (x 5) (ld (fa 0 (x 2)))) (ld (n2 (.iAddr 1) (x 1) (x 5)))))) (q (h 8 (.bSl [.int .i64 0] 1 [0]) (c1 (x 7))) (q (h 9 (.app 1 [.int .i64 0]) (c2 (x 6) (x
 8))) (s [(4,x 9)]))))) (s [(5,b .add (x 5) (i 1))])))))) (q (s [(3,x 4)]) .ret)))
def cf169:CF:=⟨2,10,[(.var 3)],bd169,.plain⟩
def tr169:List Nat:=[0,1,2,4,5,6,13,23,24,25]
def bd170:Stm:=
 q (q (h 3 .box (c1 (x 0))) (s [(4,i 0)])) (q (.cond (p (b .eql (x 1) (i 0)) (.cst (.bool true)) (b .eql (x 2) (i 0))) (q (s [(4,i 0)]) .ret) .skip) (q (s [(4,
 ld (n2 (.iAddr 1) (ld (fa 2 (x 3))) (b .rem (b .add (ld (n2 (.iAddr 1) (ld (fa 3 (x 3))) (x 1))) (ld (n2 (.iAddr 1) (ld (fa 3 (x 3))) (x 2)))) (b .sub (ld (fa
 1 (x 3))) (i 1)))))]) .ret))
def cf170:CF:=⟨3,5,[(.var 4)],bd170,.plain⟩
def tr170:List Nat:=[0,1,2,3,6]
def bd171:Stm:=
 q (q (h 3 .box (c1 (x 0))) (s [(4,i 0)])) (q (.cond (b .eql (ld (fa 0 (x 3))) (i 2)) (q (s [(4,b .xor (x 1) (x 2))]) .ret) .skip) (q (s [(4,b .rem (b .add (x
 1) (x 2)) (ld (fa 1 (x 3))))]) .ret))
def cf171:CF:=⟨3,5,[(.var 4)],bd171,.plain⟩
def tr171:List Nat:=[0,1,2,3,6]
def bd172:Stm:=
 q (q (h 3 .box (c1 (x 0))) (s [(4,i 0)])) (q (.cond (b .eql (x 1) (i 0)) (q (s [(4,i 0)]) .ret) .skip) (q (s [(4,ld (n2 (.iAddr 1) (ld (fa 2 (x 3))) (b .rem
 (b .sub (b .add (b .sub (ld (n2 (.iAddr 1) (ld (fa 3 (x 3))) (x 1))) (ld (n2 (.iAddr 1) (ld (fa 3 (x 3))) (x 2)))) (ld (fa 1 (x 3)))) (i 1)) (b .sub (ld (fa 1
 (x 3))) (i 1)))))]) .ret))
def cf172:CF:=⟨3,5,[(.var 4)],bd172,.plain⟩
def tr172:List Nat:=[0,1,2,3,6]
def bd176:Stm:=
 q (s [(3,.cst (.slice none 0 0))]) (q (.block 0 (.cond (b .eql (x 2) (i 0)) (q (q (cl 4 194 (c2 (x 0) (x 1))) (s [(3,x 4)])) .ret) (.cond (b .lss (x 2) (i 9))
 (q (q (cl 5 195 (c (x 0) (c (x 1) (c3 (b .sub (x 2) (i 1)) (i 1) (.cst (.bool false)))))) (s [(3,x 5)])) .ret) (.cond (b .lss (x 2) (i 17)) (q (q (cl 6 195
 (c (x 0) (c (x 1) (c3 (b .sub (x 2) (i 9)) (i 9) (.cst (.bool true)))))) (s [(3,x 6)])) .ret) (.cond (b .eql (x 2) (i 17)) (q (q (cl 7 196 (c2 (x 0) (x 1)))
 (s [(3,x 7)])) .ret) .skip))))) (q (q (cl 8 197 (c2 (x 0) (x 1))) (s [(3,x 8)])) .ret))
def cf176:CF:=⟨3,9,[(.var 3)],bd176,.plain⟩
def tr176:List Nat:=[0,1,2,6,12,20,28,34,37]
def bd177:Stm:=
 q (q (h 2 .box (c1 (x 1))) (s [(3,i 0)])) (q (q (.hv [(5,ld (n2 (.iAddrA 19 1) (n2 (.iAddr 19) (ld (fa 1 (n1 .nilChk (x 0)))) (ld (fa 5 (x 2)))) (ld (fa 6 (x
 2)))))] [] [] (some 4) (.call true) (c2 (.cst (.func (.func 198) #[] #[])) (n1 (.ld 7 true) (x 2)))) (s [(3,b .add (x 4) (x 5))])) .ret)
def cf177:CF:=⟨2,6,[(.var 3)],bd177,.plain⟩
def tr177:List Nat:=[0,1,3,4,6,17]
def bd178:Stm:=
 q (s [(2,i 0)]) (q (q (s [(9,i 0),(8,n1 .len (x 0)),(7,x 0)]) (.block 0 (.loop (q (.cond (b .lss (x 9) (x 8)) .skip (.exit 0)) (q (.block 1 (q (s [(4,ld
 (n2 (.iAddr 1) (x 7) (x 9))),(3,x 9)]) (q (.cond (b .geq (x 3) (n1 .len (x 1))) (q (s [(2,i 1)]) .ret) .skip) (q (s [(5,ld (n2 (.iAddr 1) (x 1) (x 3)))])
 (q (q (cl 10 199 (c2 (x 4) (x 5))) (s [(6,x 10)])) (.cond (b .neq (x 6) (i 0)) (q (s [(2,x 6)]) .ret) .skip)))))) (s [(9,b .add (x 9) (i 1))])))))) (q
 (.cond (b .lss (n1 .len (x 0)) (n1 .len (x 1))) (q (s [(2,i (-1))]) .ret) .skip) (q (s [(2,i 0)]) .ret)))
def cf178:CF:=⟨2,11,[(.var 2)],bd178,.plain⟩
def tr178:List Nat:=[0,1,4,5,6,7,8,9,10,11,26]
def bd179:Stm:=
 q (q (s [(3,.cst (.int .u64 0)),(2,.cst (.int .u64 0))]) (.cond (.cst (.bool false)) (q (q (cl 8 200 (c2 (n1 (.cvt .u32) (x 0)) (n1 (.cvt .u32) (x 1)))) (s
 [(5,ix 1 (x 8)),(4,ix 0 (x 8))])) (q (s [(3,n1 (.cvt .u64) (x 5)),(2,n1 (.cvt .u64) (x 4))]) .ret)) .skip)) (q (q (cl 9 201 (c2 (x 0) (x 1))) (s [(7,ix
 1 (x 9)),(6,ix 0 (x 9))])) (q (s [(3,x 7),(2,x 6)]) .ret))
def cf179:CF:=⟨2,10,[(.var 2),(.var 3)],bd179,.plain⟩
def tr179:List Nat:=[0,1,4,5,6,7,8,9,15,25]
def bd180:Stm:=
 q (h 3 .box (c1 (x 1))) (q (q (s [(7,i 0),(6,n1 (.ld 16 true) (x 3))]) (.block 0 (.loop (q (.cond (b .lss (x 7) (i 8)) .skip (.exit 0)) (q (.block 1 (q (q
 (.hv [(9,n2 (.idx 8 2 true) (x 6) (x 7)),(8,x 7)] [] [] (some 5) (.alloc [.int .i64 0,.int .i64 0]) .nil) (.hv [(4,x 8)] [] [] none (.st 2) (c2 (x 5) (x
 9)))) (.hv [] [] [] none (.call false) (c (x 2) (c3 (ld (n2 (.iAddrA 2 1) (x 5) (i 0))) (ld (n2 (.iAddrA 2 1) (x 5) (i 1))) (x 4)))))) (s [(7,b .add (x 7) (i
 1))])))))) (.hv [] [] [] none (.st 1) (c2 (fa 3 (n1 .nilChk (x 0))) (b .add (ld (fa 3 (n1 .nilChk (x 0)))) (i 1)))))
def cf180:CF:=⟨3,10,[],bd180,.plain⟩
def tr180:List Nat:=[0,1,2,4,6,7,8,9,11,12]
def bd182:Stm:=
 q (q (h 1 (.alloc [.int .i64 0,.int .i64 0,.int .i64 0]) .nil) (s [(3,i 0),(2,.cst (.bool false))])) (q (.cond (b .geq (ld (fa 1 (n1 .nilChk (x 0)))) (n1
 .len (ld (fa 0 (n1 .nilChk (x 0)))))) (q (q (.hv [] [] [] none (.st 3) (c2 (x 1) (n1 (.ld 3 true) (x 1)))) (s [(3,i 10),(2,.cst (.bool false))])) .ret)
 .skip) (q (.cond (b .eql (ld (n2 (.iAddr 1) (ld (fa 0 (n1 .nilChk (x 0)))) (ld (fa 1 (n1 .nilChk (x 0)))))) (i 254)) (q (.hv [] [] [] none (.st 1) (c2 (fa 1
 (n1 .nilChk (x 0))) (b .add (ld (fa 1 (n1 .nilChk (x 0)))) (i 1)))) (q (q (.hv [] [] [] none (.st 3) (c2 (x 1) (n1 (.ld 3 true) (x 1)))) (s [(3,i 0),(2,
 .cst (.bool true))])) .ret)) .skip) (q (.cond (b .geq (b .add (ld (fa 1 (n1 .nilChk (x 0)))) (i 1)) (n1 .len (ld (fa 0 (n1 .nilChk (x 0)))))) (q (q (.hv [] []
 [] none (.st 3) (c2 (x 1) (n1 (.ld 3 true) (x 1)))) (s [(3,i 10),(2,.cst (.bool false))])) .ret) .skip) (q (s [(4,b .sub (b .add (b .mul (i 256) (ld (n2
 (.iAddr 1) (ld (fa 0 (n1 .nilChk (x 0)))) (ld (fa 1 (n1 .nilChk (x 0))))))) (ld (n2 (.iAddr 1) (ld (fa 0 (n1 .nilChk (x 0)))) (b .add (ld (fa 1 (n1 .nilChk (x
 0)))) (i 1))))) (i 1))]) (q (.cond (p (b .lss (x 4) (i 0)) (.cst (.bool true)) (b .geq (x 4) (i 64000))) (q (q (.hv [] [] [] none (.st 3) (c2 (x 1) (n1 (.ld 3
 true) (x 1)))) (s [(3,i 22),(2,.cst (.bool false))])) .ret) .skip) (q (.hv [] [] [] none (.st 1) (c2 (fa 1 (n1 .nilChk (x 0))) (b .add (ld (fa 1 (n1
 .nilChk (x 0)))) (i 2)))) (q (q (.hv [] [] [] none (.st 3) (c2 (x 1) (.node (.build [.int .i64 0,.int .i64 0,.int .i64 0] [(0,1),(1,1),(2,1)]) (c3 (b
 .quo (x 4) (i 1600)) (b .rem (b .quo (x 4) (i 40)) (i 40)) (b .rem (x 4) (i 40)))))) (s [(3,i 0),(2,.cst (.bool false))])) .ret)))))))
def cf182:CF:=⟨1,5,[(.node (.ld 3 true) (.cons (.var 1) .nil)),(.var 2),(.var 3)],bd182,.plain⟩
def tr182:List Nat:=[0,2,3,4,5]
def bd183:Stm:=
 q (s [(4,.cst (.bool false)),(3,.cst (.int .u8 0))]) (q (s [(5,i (-1))]) (q (.block 0 (.cond (p (b .eql (x 1) (i 0)) (b .eql (x 2) (i 3)) (.cst (.bool
 false))) (s [(5,i 32)]) (.cond (p (p (b .eql (x 1) (i 0)) (b .geq (x 2) (i 4)) (.cst (.bool false))) (b .leq (x 2) (i 13)) (.cst (.bool false))) (s [(5,b
 .sub (b .add (i 48) (x 2)) (i 4))]) (.cond (p (b .eql (x 1) (i 0)) (b .geq (x 2) (i 14)) (.cst (.bool false))) (q (s [(5,b .sub (b .add (i 65) (x 2)) (i
 14))]) (.cond (x 0) (s [(5,b .sub (b .add (i 97) (x 2)) (i 14))]) .skip)) (.cond (p (b .eql (x 1) (i 1)) (b .leq (x 2) (i 31)) (.cst (.bool false))) (s [(5,
 x 2)]) (.cond (p (b .eql (x 1) (i 2)) (b .leq (x 2) (i 14)) (.cst (.bool false))) (s [(5,b .add (i 33) (x 2))]) (.cond (p (b .eql (x 1) (i 2)) (b .leq (x 2)
 (i 21)) (.cst (.bool false))) (s [(5,b .sub (b .add (i 58) (x 2)) (i 15))]) (.cond (p (b .eql (x 1) (i 2)) (b .leq (x 2) (i 26)) (.cst (.bool false))) (s
 [(5,b .sub (b .add (i 91) (x 2)) (i 22))]) (.cond (p (b .eql (x 1) (i 3)) (b .leq (x 2) (i 31)) (.cst (.bool false))) (q (s [(5,b .add (i 96) (x 2))])
 (.cond (p (p (x 0) (b .geq (x 2) (i 1)) (.cst (.bool false))) (b .leq (x 2) (i 26)) (.cst (.bool false))) (s [(5,b .sub (b .add (i 65) (x 2)) (i 1))])
 .skip)) .skip))))))))) (q (.cond (b .lss (x 5) (i 0)) (q (s [(4,.cst (.bool false)),(3,.cst (.int .u8 0))]) .ret) .skip) (q (s [(4,.cst (.bool true)),(3,
 n1 (.cvt .u8) (x 5))]) .ret))))
def cf183:CF:=⟨3,6,[(.var 3),(.var 4)],bd183,.plain⟩
def tr183:List Nat:=[0,1,2,6,7,8]
def bd184:Stm:=
 q (s [(2,.cst (.bool false)),(1,i 0)]) (q (.cond (b .geq (ld (fa 1 (n1 .nilChk (x 0)))) (n1 .len (ld (fa 0 (n1 .nilChk (x 0)))))) (q (s [(2,.cst (.bool
 false)),(1,i 0)]) .ret) .skip) (q (q (.hv [(4,ld (n2 (.iAddr 1) (ld (fa 0 (n1 .nilChk (x 0)))) (ld (fa 1 (n1 .nilChk (x 0))))))] [] [] (some 5) (.call
 true) (c2 (.cst (.func (.func 130) #[] #[])) (ld (fa 1 (n1 .nilChk (x 0)))))) (s [(3,b .rem (b .add (b .sub (x 4) (x 5)) (i 256)) (i 256))])) (q (.hv [] []
 [] none (.st 1) (c2 (fa 1 (n1 .nilChk (x 0))) (b .add (ld (fa 1 (n1 .nilChk (x 0)))) (i 1)))) (q (s [(2,.cst (.bool true)),(1,x 3)]) .ret))))
def cf184:CF:=⟨1,6,[(.var 1),(.var 2)],bd184,.plain⟩
def tr184:List Nat:=[0,2,3,4,24,29]
def bd185:Stm:=
 q (s [(1,.cst (.int .u8 0))]) (q (.block 0 (.cond (b .geq (x 0) (i 14)) (q (s [(1,n1 (.cvt .u8) (b .sub (b .add (i 65) (x 0)) (i 14)))]) .ret) (.cond (b .geq
 (x 0) (i 4)) (q (s [(1,n1 (.cvt .u8) (b .sub (b .add (i 48) (x 0)) (i 4)))]) .ret) .skip))) (q (s [(1,n2 (.idx 4 1 false) (.node (.build [.int .u8 0,.int
 .u8 0,.int .u8 0,.int .u8 0] [(0,1),(1,1),(2,1),(3,1)]) (c (.cst (.int .u8 13)) (c3 (.cst (.int .u8 42)) (.cst (.int .u8 62)) (.cst (.int .u8 32)))))
 (x 0))]) .ret))
def cf185:CF:=⟨1,2,[(.var 1)],bd185,.plain⟩
def tr185:List Nat:=[0,2]
def bd189:Stm:=
 q (q (s [(1,i 0)]) (.cond (.cst (.bool false)) (q (q (cl 2 203 (c1 (n1 (.cvt .u32) (x 0)))) (s [(1,x 2)])) .ret) .skip)) (q (q (cl 3 204 (c1 (x 0))) (s [(1,x
 3)])) .ret)
def cf189:CF:=⟨1,4,[(.var 1)],bd189,.plain⟩
def tr189:List Nat:=[0,2,5,7]
def bd190:Stm:=
 q (s [(2,i 0)]) (q (.block 0 (.loop (q (q (cl 3 149 (c1 (x 0))) (q (cl 4 149 (c1 (x 1))) (.cond (b .geq (x 3) (x 4)) .skip (.exit 0)))) (.block 1 (q (.hv [(6,
 x 1),(5,x 0)] [] [] (some 7) (.call false) (c2 (.cst (.func (.func 149) #[] #[])) (x 0))) (q (cl 8 149 (c1 (x 1))) (s [(0,b .xor (x 5) (b .shl (x 6) (b
 .sub (x 7) (x 8))))]))))))) (q (s [(2,x 0)]) .ret))
def cf190:CF:=⟨2,9,[(.var 2)],bd190,.plain⟩
def tr190:List Nat:=[0,1,4,6,8,10,11,13,15]
def bd192:Stm:=
 q (q (h 2 .box (c1 (x 0))) (s [(3,i 0)])) (q (s [(4,i 1)]) (q (q (s [(5,x 1)]) (.block 0 (.loop (q (.cond (b .neq (x 5) (i 1)) .skip (.exit 0)) (q (.block 1
 (s [(4,b .add (x 4) (i 1))])) (q (cl 6 162 (c3 (n1 (.ld 3 true) (x 2)) (x 5) (x 1))) (s [(5,x 6)]))))))) (q (s [(3,x 4)]) .ret)))
def cf192:CF:=⟨2,7,[(.var 3)],bd192,.plain⟩
def tr192:List Nat:=[0,1,2,4,5,6,13]
def bd193:Stm:=
 q (q (h 3 .box (c1 (x 0))) (s [(4,i 0)])) (q (.cond (b .eql (ld (fa 0 (x 3))) (i 2)) (q (s [(4,b .xor (x 1) (x 2))]) .ret) .skip) (q (s [(4,b .rem (b .add (b
 .sub (x 1) (x 2)) (ld (fa 1 (x 3)))) (ld (fa 1 (x 3))))]) .ret))
def cf193:CF:=⟨3,5,[(.var 4)],bd193,.plain⟩
def tr193:List Nat:=[0,1,2,3,6]
def bd194:Stm:=
 q (s [(2,.cst (.slice none 0 0))]) (q (q (h 7 (.bSl [.int .i64 0,.int .i64 0,.int .i64 0,.int .i64 0,.int .i64 0,.int .i64 0,.int .i64 0] 4 [0,1,2,3])
 (c (.node (.build [.int .i64 0,.int .i64 0,.int .i64 0,.int .i64 0,.int .i64 0,.int .i64 0,.int .i64 0] [(0,3),(3,1),(5,1),(6,1)]) (c (n1 (.build
 [.int .i64 0,.int .i64 0,.int .i64 0] [(0,1)]) (i 230)) (c3 (i 1) (x 1) (i 1)))) (c3 (.node (.build [.int .i64 0,.int .i64 0,.int .i64 0,.int .i64 0,
 .int .i64 0,.int .i64 0,.int .i64 0] [(0,3),(3,1),(5,1),(6,1)]) (c (n1 (.build [.int .i64 0,.int .i64 0,.int .i64 0] [(0,1)]) (i 239)) (c3 (i 1)
 (x 1) (i 9)))) (.node (.build [.int .i64 0,.int .i64 0,.int .i64 0,.int .i64 0,.int .i64 0,.int .i64 0,.int .i64 0] [(0,3),(3,1),(5,1),(6,1)]) (c
 (n1 (.build [.int .i64 0,.int .i64 0,.int .i64 0] [(0,1)]) (i 238)) (c3 (i 1) (x 1) (i 17)))) (.node (.build [.int .i64 0,.int .i64 0,.int .i64 0,.int
 .i64 0,.int .i64 0,.int .i64 0,.int .i64 0] [(0,3),(3,1),(5,1),(6,1)]) (c (n1 (.build [.int .i64 0,.int .i64 0,.int .i64 0] [(0,1)]) (i 240)) (c3
 (i 1) (x 1) (i 18))))))) (s [(3,x 7)])) (q (s [(4,n2 (.sl 1 true false false) (ld (fa 0 (n1 .nilChk (x 0)))) (x 1))]) (q (.cond (b .eql (n1 .len (x 4)) (i
 0)) (q (s [(2,x 3)]) .ret) .skip) (q (s [(5,n1 (.cvt .i64) (ld (n2 (.iAddr 1) (x 4) (i 0))))]) (q (.cond (b .lss (x 5) (i 128)) (q (.hv [(8,x 3)] [] []
 (some 9) (.bSl [.int .i64 0,.int .i64 0,.int .i64 0,.int .i64 0,.int .i64 0,.int .i64 0,.int .i64 0] 1 [0]) (c1 (.node (.build [.int .i64 0,.int .i64
 0,.int .i64 0,.int .i64 0,.int .i64 0,.int .i64 0,.int .i64 0] [(0,3),(3,1),(5,1)]) (c3 (n1 (.build [.int .i64 0,.int .i64 0,.int .i64 0] [(0,
 1)]) (b .add (x 5) (i 1))) (i 1) (b .add (x 1) (i 1)))))) (q (h 10 (.app 7 [.int .i64 0,.int .i64 0,.int .i64 0,.int .i64 0,.int .i64 0,.int .i64 0,.int
 .i64 0]) (c2 (x 8) (x 9))) (s [(3,x 10)]))) (q (.hv [(11,x 3)] [] [] (some 12) (.bSl [.int .i64 0,.int .i64 0,.int .i64 0,.int .i64 0,.int .i64 0,.int
 .i64 0,.int .i64 0] 1 [0]) (c1 (.node (.build [.int .i64 0,.int .i64 0,.int .i64 0,.int .i64 0,.int .i64 0,.int .i64 0,.int .i64 0] [(0,3),(3,1),
 (5,1)]) (c3 (n2 (.build [.int .i64 0,.int .i64 0,.int .i64 0] [(0,1),(1,1)]) (i 235) (b .sub (x 5) (i 127))) (i 2) (b .add (x 1) (i 1)))))) (q (h 13
 (.app 7 [.int .i64 0,.int .i64 0,.int .i64 0,.int .i64 0,.int .i64 0,.int .i64 0,.int .i64 0]) (c2 (x 11) (x 12))) (s [(3,x 13)])))) (q (q (.hv [(14,b
 .geq (n1 .len (x 4)) (i 2))] [] [(b .geq (n1 .len (x 4)) (i 2),true)] (some 15) (.call false) (c2 (.cst (.func (.func 205) #[] #[])) (ld (n2 (.iAddr 1) (x 4)
 (i 0))))) (q (.hv [(16,p (x 14) (x 15) (.cst (.bool false)))] [] [(p (x 14) (x 15) (.cst (.bool false)),true)] (some 17) (.call false) (c2 (.cst (.func
 (.func 205) #[] #[])) (ld (n2 (.iAddr 1) (x 4) (i 1))))) (.cond (p (x 16) (x 17) (.cst (.bool false))) (q (s [(6,b .sub (b .add (b .mul (i 10) (b .sub (x 5)
 (i 48))) (n1 (.cvt .i64) (ld (n2 (.iAddr 1) (x 4) (i 1))))) (i 48))]) (q (.hv [(18,x 3)] [] [] (some 19) (.bSl [.int .i64 0,.int .i64 0,.int .i64 0,.int
 .i64 0,.int .i64 0,.int .i64 0,.int .i64 0] 1 [0]) (c1 (.node (.build [.int .i64 0,.int .i64 0,.int .i64 0,.int .i64 0,.int .i64 0,.int .i64 0,.int
 .i64 0] [(0,3),(3,1),(5,1)]) (c3 (n1 (.build [.int .i64 0,.int .i64 0,.int .i64 0] [(0,1)]) (b .add (i 130) (x 6))) (i 1) (b .add (x 1) (i 2)))))) (q
 (h 20 (.app 7 [.int .i64 0,.int .i64 0,.int .i64 0,.int .i64 0,.int .i64 0,.int .i64 0,.int .i64 0]) (c2 (x 18) (x 19))) (s [(3,x 20)])))) .skip))) (q
 (q (.hv [(21,x 3)] [] [] (some 22) (.call false) (c3 (.cst (.func (.func 206) #[] #[])) (x 0) (x 1))) (q (h 23 (.bSl [.int .i64 0,.int .i64 0,.int .i64 0,
 .int .i64 0,.int .i64 0,.int .i64 0,.int .i64 0] 1 [0]) (c1 (x 22))) (q (h 24 (.app 7 [.int .i64 0,.int .i64 0,.int .i64 0,.int .i64 0,.int .i64 0,
 .int .i64 0,.int .i64 0]) (c2 (x 21) (x 23))) (s [(2,x 24)])))) .ret)))))))
def cf194:CF:=⟨2,25,[(.var 2)],bd194,.plain⟩
def tr194:List Nat:=[0,1,4,5,6,7,8,21,38,45,46,47,54,55,59,63,65,69,80,87,88,89,92,93,94]
def bd195:Stm:=
 q (s [(5,.cst (.slice none 0 0))]) (q (q (h 12 (.bSl [.int .i64 0,.int .i64 0,.int .i64 0,.int .i64 0,.int .i64 0,.int .i64 0,.int .i64 0] 1 [0]) (c1
 (.node (.build [.int .i64 0,.int .i64 0,.int .i64 0,.int .i64 0,.int .i64 0,.int .i64 0,.int .i64 0] [(0,3),(3,1),(5,1),(6,1)]) (c (n1 (.build
 [.int .i64 0,.int .i64 0,.int .i64 0] [(0,1)]) (i 254)) (c3 (i 1) (x 1) (i 0)))))) (s [(6,x 12)])) (q (q (.hv [(13,.node (.build [.int .i64 0,.int .i64
 0,.bool false] [(0,1),(1,1),(2,1)]) (c3 (x 1) (b .rem (x 2) (i 4)) (b .geq (x 2) (i 4))))] [] [] (some 7) (.alloc [.int .i64 0,.int .i64 0,.bool
 false]) .nil) (.hv [] [] [] none (.st 3) (c2 (x 7) (x 13)))) (q (q (q (cl 14 207 (c3 (x 0) (n1 (.ld 3 true) (x 7)) (x 4))) (s [(16,i 0),(15,n1 .len (x
 14))])) (.block 0 (.loop (q (.cond (b .lss (x 16) (x 15)) .skip (.exit 0)) (q (.block 1 (q (q (.hv [(17,n1 (.ld 4 true) (n2 (.iAddr 4) (x 14) (x 16)))] [] []
 (some 8) (.alloc [.int .i64 0,.int .i64 0,.int .i64 0,.bool false]) .nil) (.hv [] [] [] none (.st 4) (c2 (x 8) (x 17)))) (q (q (cl 18 207 (c3 (x 0) (n1
 (.ld 3 true) (fa 1 (x 8))) (x 4))) (s [(20,i 0),(19,n1 .len (x 18))])) (.block 2 (.loop (q (.cond (b .lss (x 20) (x 19)) .skip (.exit 2)) (q (.block 3 (q
 (q (.hv [(21,n1 (.ld 4 true) (n2 (.iAddr 4) (x 18) (x 20)))] [] [] (some 9) (.alloc [.int .i64 0,.int .i64 0,.int .i64 0,.bool false]) .nil) (.hv [] [] []
 none (.st 4) (c2 (x 9) (x 21)))) (q (q (cl 22 207 (c3 (x 0) (n1 (.ld 3 true) (fa 1 (x 9))) (x 4))) (s [(24,i 0),(23,n1 .len (x 22))])) (.block 4 (.loop (q
 (.cond (b .lss (x 24) (x 23)) .skip (.exit 4)) (q (.block 5 (q (q (.hv [(25,n1 (.ld 4 true) (n2 (.iAddr 4) (x 22) (x 24)))] [] [] (some 10) (.alloc [.int
 .i64 0,.int .i64 0,.int .i64 0,.bool false]) .nil) (.hv [] [] [] none (.st 4) (c2 (x 10) (x 25)))) (q (s [(11,b .add (x 3) (ld (fa 1 (fa 1 (x 10)))))]) (q
 (.cond (ld (fa 2 (fa 1 (x 10)))) (s [(11,b .add (x 11) (i 4))]) .skip) (q (.hv [(26,x 6)] [] [] (some 27) (.call false) (c (.cst (.func (.func 208) #[]
 #[])) (c (ld (fa 0 (x 8))) (c (ld (fa 0 (x 9))) (c3 (ld (fa 0 (x 10))) (ld (fa 0 (fa 1 (x 10)))) (x 11)))))) (q (h 28 (.bSl [.int .i64 0,.int .i64 0,.int
 .i64 0,.int .i64 0,.int .i64 0,.int .i64 0,.int .i64 0] 1 [0]) (c1 (x 27))) (q (h 29 (.app 7 [.int .i64 0,.int .i64 0,.int .i64 0,.int .i64 0,.int
 .i64 0,.int .i64 0,.int .i64 0]) (c2 (x 26) (x 28))) (s [(6,x 29)])))))))) (s [(24,b .add (x 24) (i 1))])))))))) (s [(20,b .add (x 20) (i 1))])))))))) (s
 [(16,b .add (x 16) (i 1))])))))) (q (s [(5,x 6)]) .ret))))
def cf195:CF:=⟨5,30,[(.var 5)],bd195,.plain⟩
def tr195:List Nat:=[0,1,2,3,4,10,11,12,14,16,18,19,23,29,33,34,35,38,43,44,45,48,53,54,55,58,69,80,81,82]
def bd196:Stm:=
 q (s [(2,.cst (.slice none 0 0))]) (q (q (h 6 (.bSl [.int .i64 0,.int .i64 0,.int .i64 0,.int .i64 0,.int .i64 0,.int .i64 0,.int .i64 0] 1 [0]) (c1
 (.node (.build [.int .i64 0,.int .i64 0,.int .i64 0,.int .i64 0,.int .i64 0,.int .i64 0,.int .i64 0] [(0,3),(3,1),(5,1),(6,1)]) (c (n1 (.build
 [.int .i64 0,.int .i64 0,.int .i64 0] [(0,1)]) (i 254)) (c3 (i 1) (x 1) (i 0)))))) (s [(3,x 6)])) (q (.cond (b .lss (b .sub (n1 .len (ld (fa 0 (n1 .nilChk
 (x 0))))) (x 1)) (i 3)) (q (s [(2,x 3)]) .ret) .skip) (q (h 4 (.alloc [.int .i64 0,.int .i64 0,.int .i64 0]) .nil) (q (q (s [(7,i 0)]) (.block 0 (.loop (q
 (.cond (b .lss (x 7) (i 3)) .skip (.exit 0)) (q (.block 1 (q (s [(5,x 7)]) (q (q (.hv [(8,x 5)] [] [] (some 9) (.call false) (c2 (.cst (.func (.func 209)
 #[] #[])) (ld (n2 (.iAddr 1) (ld (fa 0 (n1 .nilChk (x 0)))) (b .add (x 1) (x 5)))))) (.hv [] [] [] none (.st 1) (c2 (n2 (.iAddrA 3 1) (x 4) (x 8)) (x 9))))
 (.cond (b .lss (ld (n2 (.iAddrA 3 1) (x 4) (x 5))) (i 0)) (q (s [(2,x 3)]) .ret) .skip)))) (s [(7,b .add (x 7) (i 1))])))))) (q (q (.hv [(10,x 3)] [] []
 (some 11) (.call false) (c (.cst (.func (.func 208) #[] #[])) (c (ld (n2 (.iAddrA 3 1) (x 4) (i 0))) (c (ld (n2 (.iAddrA 3 1) (x 4) (i 1))) (c3 (ld (n2
 (.iAddrA 3 1) (x 4) (i 2))) (b .add (x 1) (i 3)) (i 17)))))) (q (h 12 (.bSl [.int .i64 0,.int .i64 0,.int .i64 0,.int .i64 0,.int .i64 0,.int .i64 0,
 .int .i64 0] 1 [0]) (c1 (x 11))) (q (h 13 (.app 7 [.int .i64 0,.int .i64 0,.int .i64 0,.int .i64 0,.int .i64 0,.int .i64 0,.int .i64 0]) (c2 (x 10) (x
 12))) (s [(2,x 13)])))) .ret)))))
def cf196:CF:=⟨2,14,[(.var 2)],bd196,.plain⟩
def tr196:List Nat:=[0,1,4,5,6,7,11,21,24,34,42,51,52,53]
def bd197:Stm:=
 q (s [(2,.cst (.slice none 0 0))]) (q (s [(3,.cst (.slice none 0 0))]) (q (s [(4,i 0)]) (q (q (s [(7,i 0)]) (.block 0 (.loop (q (.cond (b .lss (x 7) (i 4))
 .skip (.exit 0)) (q (.block 1 (q (s [(5,x 7)]) (q (q (.hv [(8,x 3)] [] [] (some 9) (.call false) (c (.cst (.func (.func 210) #[] #[])) (c (b .or (b .shl (x
 4) (.cst (.int .u64 6))) (i 31)) (c3 (b .add (x 5) (i 1)) (b .add (x 1) (x 5)) (i 0))))) (q (h 10 (.bSl [.int .i64 0,.int .i64 0,.int .i64 0,.int .i64 0,
 .int .i64 0,.int .i64 0,.int .i64 0] 1 [0]) (c1 (x 9))) (q (h 11 (.app 7 [.int .i64 0,.int .i64 0,.int .i64 0,.int .i64 0,.int .i64 0,.int .i64 0,.int
 .i64 0]) (c2 (x 8) (x 10))) (s [(3,x 11)])))) (q (.cond (b .geq (b .add (x 1) (x 5)) (n1 .len (ld (fa 0 (n1 .nilChk (x 0)))))) (q (s [(2,x 3)]) .ret) .skip)
 (q (s [(6,ld (n2 (.iAddr 1) (ld (fa 0 (n1 .nilChk (x 0)))) (b .add (x 1) (x 5))))]) (q (.cond (p (b .lss (x 6) (.cst (.int .u8 32))) (.cst (.bool true)) (b
 .gtr (x 6) (.cst (.int .u8 94)))) (q (s [(2,x 3)]) .ret) .skip) (s [(4,b .or (b .shl (x 4) (.cst (.int .u64 6))) (b .and (n1 (.cvt .i64) (x 6)) (i
 63)))]))))))) (s [(7,b .add (x 7) (i 1))])))))) (q (q (.hv [(12,x 3)] [] [] (some 13) (.call false) (c (.cst (.func (.func 210) #[] #[])) (c (x 4) (c3 (i 4)
 (b .add (x 1) (i 4)) (i 18))))) (q (h 14 (.bSl [.int .i64 0,.int .i64 0,.int .i64 0,.int .i64 0,.int .i64 0,.int .i64 0,.int .i64 0] 1 [0]) (c1 (x 13)))
 (q (h 15 (.app 7 [.int .i64 0,.int .i64 0,.int .i64 0,.int .i64 0,.int .i64 0,.int .i64 0,.int .i64 0]) (c2 (x 12) (x 14))) (s [(2,x 15)])))) .ret))))
def cf197:CF:=⟨2,16,[(.var 2)],bd197,.plain⟩
def tr197:List Nat:=[0,1,4,5,6,7,8,9,12,21,22,23,57,61,62,63]
def bd198:Stm:=
 q (q (h 1 .box (c1 (x 0))) (s [(2,i 0)])) (q (s [(2,b .add (ld (fa 3 (x 1))) (ld (fa 4 (x 1))))]) .ret)
def cf198:CF:=⟨1,3,[(.var 2)],bd198,.plain⟩
def tr198:List Nat:=[0,1,2]
def bd199:Stm:=
 q (s [(2,i 0)]) (q (q (cl 5 211 (c1 (x 0))) (s [(3,x 5)])) (q (q (cl 6 211 (c1 (x 1))) (s [(4,x 6)])) (q (.cond (x 3) (q (.cond (x 4) (q (s [(2,i 0)]) .ret)
 .skip) (q (s [(2,i (-1))]) .ret)) .skip) (q (.cond (x 4) (q (s [(2,i 1)]) .ret) .skip) (q (.cond (b .lss (x 0) (x 1)) (q (s [(2,i (-1))]) .ret) .skip) (q
 (.cond (b .gtr (x 0) (x 1)) (q (s [(2,i 1)]) .ret) .skip) (q (s [(2,i 0)]) .ret)))))))
def cf199:CF:=⟨2,7,[(.var 2)],bd199,.plain⟩
def tr199:List Nat:=[0,1,4,5,6,8,10]
def bd200:Stm:=
 q (s [(3,.cst (.int .u32 0)),(2,.cst (.int .u32 0))]) (q (s [(4,b .mul (n1 (.cvt .u64) (x 0)) (n1 (.cvt .u64) (x 1)))]) (q (s [(3,n1 (.cvt .u32) (x 4)),
 (2,n1 (.cvt .u32) (b .shr (x 4) (.cst (.int .u64 32))))]) .ret))
def cf200:CF:=⟨2,5,[(.var 2),(.var 3)],bd200,.plain⟩
def tr200:List Nat:=[0,1,4,5,6]
def bd201:Stm:=
 q (s [(3,.cst (.int .u64 0)),(2,.cst (.int .u64 0))]) (q (s [(4,b .and (x 0) (.cst (.int .u64 4294967295)))]) (q (s [(5,b .shr (x 0) (.cst (.int .u64
 32)))]) (q (s [(6,b .and (x 1) (.cst (.int .u64 4294967295)))]) (q (s [(7,b .shr (x 1) (.cst (.int .u64 32)))]) (q (s [(8,b .mul (x 4) (x 6))]) (q (s [(9,
 b .add (b .mul (x 5) (x 6)) (b .shr (x 8) (.cst (.int .u64 32))))]) (q (s [(10,b .and (x 9) (.cst (.int .u64 4294967295)))]) (q (s [(11,b .shr (x 9) (.cst
 (.int .u64 32)))]) (q (s [(10,b .add (x 10) (b .mul (x 4) (x 7)))]) (q (s [(2,b .add (b .add (b .mul (x 5) (x 7)) (x 11)) (b .shr (x 10) (.cst (.int .u64
 32))))]) (q (s [(3,b .mul (x 0) (x 1))]) .ret)))))))))))
def cf201:CF:=⟨2,12,[(.var 2),(.var 3)],bd201,.plain⟩
def tr201:List Nat:=[0,1,4,5,6,7,8,9,10,11,12,13]
def bd203:Stm:=
 q (s [(1,i 0)]) (q (.cond (b .geq (x 0) (.cst (.int .u32 65536))) (q (s [(0,b .shr (x 0) (.cst (.int .u64 16)))]) (s [(1,i 16)])) .skip) (q (.cond (b .geq (x
 0) (.cst (.int .u32 256))) (q (s [(0,b .shr (x 0) (.cst (.int .u64 8)))]) (s [(1,b .add (x 1) (i 8))])) .skip) (q (s [(1,b .add (x 1) (n1 (.cvt .i64) (n2
 .idxS (.cst (.string lit0)) (n1 (.cvt .u8) (x 0)))))]) .ret)))
def cf203:CF:=⟨1,2,[(.var 1)],bd203,.plain⟩
def tr203:List Nat:=[0,2]
def bd204:Stm:=
 q (s [(1,i 0)]) (q (.cond (b .geq (x 0) (.cst (.int .u64 4294967296))) (q (s [(0,b .shr (x 0) (.cst (.int .u64 32)))]) (s [(1,i 32)])) .skip) (q (.cond (b
 .geq (x 0) (.cst (.int .u64 65536))) (q (s [(0,b .shr (x 0) (.cst (.int .u64 16)))]) (s [(1,b .add (x 1) (i 16))])) .skip) (q (.cond (b .geq (x 0) (.cst
 (.int .u64 256))) (q (s [(0,b .shr (x 0) (.cst (.int .u64 8)))]) (s [(1,b .add (x 1) (i 8))])) .skip) (q (s [(1,b .add (x 1) (n1 (.cvt .i64) (n2 .idxS
 (.cst (.string lit0)) (n1 (.cvt .u8) (x 0)))))]) .ret))))
def cf204:CF:=⟨1,2,[(.var 1)],bd204,.plain⟩
def tr204:List Nat:=[0,2]
def bd205:Stm:=
 q (s [(1,.cst (.bool false))]) (q (s [(1,p (b .geq (x 0) (.cst (.int .u8 48))) (b .leq (x 0) (.cst (.int .u8 57))) (.cst (.bool false)))]) .ret)
def cf205:CF:=⟨1,2,[(.var 1)],bd205,.plain⟩
def tr205:List Nat:=[0,2]
def bd206:Stm:=
 q (h 2 (.alloc [.int .i64 0,.int .i64 0,.int .i64 0,.int .i64 0,.int .i64 0,.int .i64 0,.int .i64 0]) .nil) (q (h 3 (.alloc [.int .i64 0,.int .i64 0,
 .int .i64 0,.int .i64 0,.int .i64 0,.int .i64 0,.int .i64 0]) .nil) (q (q (s [(4,i 1)]) (.block 0 (.loop (q (.cond (p (b .leq (x 4) (b .sub (n1 .len (ld
 (fa 0 (n1 .nilChk (x 0))))) (x 1))) (b .leq (x 4) (i 1749)) (.cst (.bool false))) .skip (.exit 0)) (q (.block 1 (q (q (.hv [(6,.node (.build [.int .i64 0,
 .int .i64 0,.int .i64 0,.int .i64 0,.int .i64 0,.int .i64 0,.int .i64 0] [(0,3),(3,1),(4,1),(5,1)]) (c (n2 (.build [.int .i64 0,.int .i64 0,.int
 .i64 0] [(0,1),(1,1)]) (i 231) (x 4)) (c3 (i 2) (x 4) (b .add (x 1) (x 4)))))] [] [] (some 5) (.alloc [.int .i64 0,.int .i64 0,.int .i64 0,.int .i64 0,
 .int .i64 0,.int .i64 0,.int .i64 0]) .nil) (.hv [] [] [] none (.st 7) (c2 (x 5) (x 6)))) (q (.cond (b .geq (x 4) (i 250)) (q (.hv [] [] [] none (.st 3) (c2
 (fa 0 (x 5)) (.node (.build [.int .i64 0,.int .i64 0,.int .i64 0] [(0,1),(1,1),(2,1)]) (c3 (i 231) (b .add (i 249) (b .quo (x 4) (i 250))) (b .rem (x
 4) (i 250)))))) (.hv [] [] [] none (.st 1) (c2 (fa 3 (x 5)) (i 3)))) .skip) (q (.hv [(10,p (b .eql (x 4) (i 1)) (.cst (.tuple #[])) (n1 (.ld 7 true) (x 3))),
 (9,p (b .eql (x 4) (i 1)) (.cst (.tuple #[])) (x 0)),(7,b .eql (x 4) (i 1))] [] [(b .eql (x 4) (i 1),false)] (some 8) (.call true) (c3 (.cst (.func (.func
 177) #[] #[])) (x 0) (n1 (.ld 7 true) (x 5)))) (q (.hv [] [] [(x 7,false)] (some 11) .callC (c3 (.cst (.func (.func 177) #[] #[])) (x 9) (x 10))) (.cond (p
 (x 7) (.cst (.bool true)) (b .lss (x 8) (x 11))) (.hv [] [] [] none (.st 7) (c2 (x 3) (n1 (.ld 7 true) (x 5)))) .skip)))))) (s [(4,b .add (x 4) (i 1))]))))))
 (q (.hv [] [] [] none (.st 7) (c2 (x 2) (n1 (.ld 7 true) (x 3)))) .ret)))
def cf206:CF:=⟨2,12,[(.node (.ld 7 true) (.cons (.var 2) .nil))],bd206,.plain⟩
def tr206:List Nat:=[0,1,4,5,6,7,29,42,45,46,47,48]
def bd207:Stm:=
 q (q (h 3 .box (c1 (x 1))) (s [(4,.cst (.slice none 0 0))])) (q (s [(5,.cst (.slice none 0 0))]) (q (.cond (b .eql (ld (fa 1 (x 3))) (i 0)) (q (s [(10,i 0)])
 (.block 0 (.loop (q (.cond (b .lss (x 10) (i 3)) .skip (.exit 0)) (q (.block 1 (q (s [(6,x 10)]) (q (.hv [(11,x 5)] [] [] (some 12) (.bSl [.int .i64 0,.int
 .i64 0,.int .i64 0,.bool false] 1 [0]) (c1 (n2 (.build [.int .i64 0,.int .i64 0,.int .i64 0,.bool false] [(0,1),(1,3)]) (x 6) (.node (.build [.int
 .i64 0,.int .i64 0,.bool false] [(0,1),(1,1),(2,1)]) (c3 (ld (fa 0 (x 3))) (b .add (x 6) (i 1)) (ld (fa 2 (x 3)))))))) (q (h 13 (.app 4 [.int .i64 0,
 .int .i64 0,.int .i64 0,.bool false]) (c2 (x 11) (x 12))) (s [(5,x 13)]))))) (s [(10,b .add (x 10) (i 1))])))))) .skip) (q (.cond (b .lss (ld (fa 0 (x
 3))) (n1 .len (ld (fa 0 (n1 .nilChk (x 0)))))) (q (s [(7,ld (n2 (.iAddr 1) (ld (fa 0 (n1 .nilChk (x 0)))) (ld (fa 0 (x 3)))))]) (q (q (cl 14 212 (c2 (x 2) (b
 .and (x 7) (.cst (.int .u8 127))))) (s [(9,ix 1 (x 14)),(8,ix 0 (x 14))])) (.cond (p (b .eql (x 8) (ld (fa 1 (x 3)))) (n2 (.eqB false) (ld (fa 2 (x 3))) (b
 .geq (x 7) (.cst (.int .u8 128)))) (.cst (.bool false))) (q (.hv [(15,x 5)] [] [] (some 16) (.bSl [.int .i64 0,.int .i64 0,.int .i64 0,.bool false] 1 [0])
 (c1 (n2 (.build [.int .i64 0,.int .i64 0,.int .i64 0,.bool false] [(0,1),(1,3)]) (x 9) (n1 (.build [.int .i64 0,.int .i64 0,.bool false] [(0,1)]) (b
 .add (ld (fa 0 (x 3))) (i 1)))))) (q (h 17 (.app 4 [.int .i64 0,.int .i64 0,.int .i64 0,.bool false]) (c2 (x 15) (x 16))) (s [(5,x 17)]))) .skip))) .skip)
 (q (.cond (p (b .eql (ld (fa 1 (x 3))) (i 2)) (n1 (.un .not) (ld (fa 2 (x 3)))) (.cst (.bool false))) (q (.hv [(18,x 5)] [] [] (some 19) (.bSl [.int .i64 0,
 .int .i64 0,.int .i64 0,.bool false] 1 [0]) (c1 (n2 (.build [.int .i64 0,.int .i64 0,.int .i64 0,.bool false] [(0,1),(1,3)]) (i 30) (n2 (.build [.int
 .i64 0,.int .i64 0,.bool false] [(0,1),(2,1)]) (ld (fa 0 (x 3))) (.cst (.bool true)))))) (q (h 20 (.app 4 [.int .i64 0,.int .i64 0,.int .i64 0,.bool
 false]) (c2 (x 18) (x 19))) (s [(5,x 20)]))) .skip) (q (s [(4,x 5)]) .ret)))))
def cf207:CF:=⟨3,21,[(.var 4)],bd207,.plain⟩
def tr207:List Nat:=[0,1,2,4,6,7,8,9,10,11,15,18,28,29,51,65,72,73,82,87,88]
def bd208:Stm:=
 q (h 5 (.alloc [.int .i64 0,.int .i64 0,.int .i64 0,.int .i64 0,.int .i64 0,.int .i64 0,.int .i64 0]) .nil) (q (s [(6,b .add (b .add (b .add (b .mul (i
 1600) (x 0)) (b .mul (i 40) (x 1))) (x 2)) (i 1))]) (q (.hv [] [] [] none (.st 7) (c2 (x 5) (.node (.build [.int .i64 0,.int .i64 0,.int .i64 0,.int .i64
 0,.int .i64 0,.int .i64 0,.int .i64 0] [(0,3),(3,1),(5,1),(6,1)]) (c (n2 (.build [.int .i64 0,.int .i64 0,.int .i64 0] [(0,1),(1,1)]) (b .quo
 (x 6) (i 256)) (b .rem (x 6) (i 256))) (c3 (i 2) (x 3) (x 4)))))) .ret))
def cf208:CF:=⟨5,7,[(.node (.ld 7 true) (.cons (.var 5) .nil))],bd208,.plain⟩
def tr208:List Nat:=[0,1,2,3,4,10,11]
def bd209:Stm:=
 q (s [(1,i 0)]) (q (.block 0 (.cond (p (b .geq (x 0) (.cst (.int .u8 65))) (b .leq (x 0) (.cst (.int .u8 90))) (.cst (.bool false))) (q (s [(1,b .add (b .sub
 (n1 (.cvt .i64) (x 0)) (i 65)) (i 14))]) .ret) (.cond (p (b .geq (x 0) (.cst (.int .u8 48))) (b .leq (x 0) (.cst (.int .u8 57))) (.cst (.bool false))) (q (s
 [(1,b .add (b .sub (n1 (.cvt .i64) (x 0)) (i 48)) (i 4))]) .ret) (.cond (b .eql (x 0) (.cst (.int .u8 13))) (q (s [(1,i 0)]) .ret) (.cond (b .eql (x 0)
 (.cst (.int .u8 42))) (q (s [(1,i 1)]) .ret) (.cond (b .eql (x 0) (.cst (.int .u8 62))) (q (s [(1,i 2)]) .ret) (.cond (b .eql (x 0) (.cst (.int .u8 32))) (q
 (s [(1,i 3)]) .ret) .skip))))))) (q (s [(1,i (-1))]) .ret))
def cf209:CF:=⟨1,2,[(.var 1)],bd209,.plain⟩
def tr209:List Nat:=[0,2]
def bd210:Stm:=
 q (h 4 (.alloc [.int .i64 0,.int .i64 0,.int .i64 0,.int .i64 0,.int .i64 0,.int .i64 0,.int .i64 0]) .nil) (q (s [(0,b .shl (x 0) (b .mul (i 6) (b .sub
 (i 4) (x 1))))]) (q (.hv [] [] [] none (.st 7) (c2 (x 4) (.node (.build [.int .i64 0,.int .i64 0,.int .i64 0,.int .i64 0,.int .i64 0,.int .i64 0,.int
 .i64 0] [(0,3),(3,1),(5,1),(6,1)]) (c (.node (.build [.int .i64 0,.int .i64 0,.int .i64 0] [(0,1),(1,1),(2,1)]) (c3 (b .shr (x 0) (.cst (.int
 .u64 16))) (b .and (b .shr (x 0) (.cst (.int .u64 8))) (i 255)) (b .and (x 0) (i 255)))) (c3 (b .quo (b .add (b .mul (i 6) (x 1)) (i 7)) (i 8)) (x 2) (x
 3)))))) .ret))
def cf210:CF:=⟨4,5,[(.node (.ld 7 true) (.cons (.var 4) .nil))],bd210,.plain⟩
def tr210:List Nat:=[0,1,2,3,8]
def bd211:Stm:=
 q (s [(1,.cst (.bool false))]) (q (s [(1,b .neq (x 0) (x 0))]) .ret)
def cf211:CF:=⟨1,2,[(.var 1)],bd211,.plain⟩
def tr211:List Nat:=[0,2]
def bd212:Stm:=
 q (s [(3,i 0),(2,i 0)]) (q (s [(4,n1 (.cvt .i64) (x 1))]) (q (s [(5,p (b .geq (x 1) (.cst (.int .u8 65))) (b .leq (x 1) (.cst (.int .u8 90))) (.cst (.bool
 false)))]) (q (s [(6,p (b .geq (x 1) (.cst (.int .u8 97))) (b .leq (x 1) (.cst (.int .u8 122))) (.cst (.bool false)))]) (q (.block 0 (.cond (b .eql (x 1)
 (.cst (.int .u8 32))) (q (s [(3,i 3),(2,i 0)]) .ret) (.cond (p (b .geq (x 1) (.cst (.int .u8 48))) (b .leq (x 1) (.cst (.int .u8 57))) (.cst (.bool
 false))) (q (s [(3,b .add (b .sub (x 4) (i 48)) (i 4)),(2,i 0)]) .ret) (.cond (p (x 5) (n1 (.un .not) (x 0)) (.cst (.bool false))) (q (s [(3,b .add (b
 .sub (x 4) (i 65)) (i 14)),(2,i 0)]) .ret) (.cond (p (x 6) (x 0) (.cst (.bool false))) (q (s [(3,b .add (b .sub (x 4) (i 97)) (i 14)),(2,i 0)]) .ret)
 (.cond (x 5) (q (s [(3,b .add (b .sub (x 4) (i 65)) (i 1)),(2,i 3)]) .ret) (.cond (b .leq (x 4) (i 31)) (q (s [(3,x 4),(2,i 1)]) .ret) (.cond (b .leq (x
 4) (i 47)) (q (s [(3,b .sub (x 4) (i 33)),(2,i 2)]) .ret) (.cond (b .leq (x 4) (i 64)) (q (s [(3,b .add (b .sub (x 4) (i 58)) (i 15)),(2,i 2)]) .ret)
 (.cond (b .leq (x 4) (i 95)) (q (s [(3,b .add (b .sub (x 4) (i 91)) (i 22)),(2,i 2)]) .ret) .skip)))))))))) (q (s [(3,b .sub (x 4) (i 96)),(2,i 3)])
 .ret)))))
def cf212:CF:=⟨2,7,[(.var 2),(.var 3)],bd212,.plain⟩
def tr212:List Nat:=[0,1,4,5,6,7,8]
end
theorem is8:compFunc Tryz.prog tr8 8=some cf8:=by kernel_rfl
theorem is9:compFunc Tryz.prog tr9 9=some cf9:=by kernel_rfl
theorem is11:compFunc Tryz.prog tr11 11=some cf11:=by kernel_rfl
theorem is12:compFunc Tryz.prog tr12 12=some cf12:=by kernel_rfl
theorem is13:compFunc Tryz.prog tr13 13=some cf13:=by kernel_rfl
theorem is15:compFunc Tryz.prog tr15 15=some cf15:=by kernel_rfl
theorem is16:compFunc Tryz.prog tr16 16=some cf16:=by kernel_rfl
theorem is18:compFunc Tryz.prog tr18 18=some cf18:=by kernel_rfl
theorem is21:compFunc Tryz.prog tr21 21=some cf21:=by kernel_rfl
theorem is23:compFunc Tryz.prog tr23 23=some cf23:=by kernel_rfl
theorem is24:compFunc Tryz.prog tr24 24=some cf24:=by kernel_rfl
theorem is26:compFunc Tryz.prog tr26 26=some cf26:=by kernel_rfl
theorem is27:compFunc Tryz.prog tr27 27=some cf27:=by kernel_rfl
theorem is28:compFunc Tryz.prog tr28 28=some cf28:=by kernel_rfl
theorem is29:compFunc Tryz.prog tr29 29=some cf29:=by kernel_rfl
theorem is30:compFunc Tryz.prog tr30 30=some cf30:=by kernel_rfl
theorem is36:compFunc Tryz.prog tr36 36=some cf36:=by kernel_rfl
theorem is38:compFunc Tryz.prog tr38 38=some cf38:=by kernel_rfl
theorem is39:compFunc Tryz.prog tr39 39=some cf39:=by kernel_rfl
theorem is40:compFunc Tryz.prog tr40 40=some cf40:=by kernel_rfl
theorem is41:compFunc Tryz.prog tr41 41=some cf41:=by kernel_rfl
theorem is45:compFunc Tryz.prog tr45 45=some cf45:=by kernel_rfl
theorem is46:compFunc Tryz.prog tr46 46=some cf46:=by kernel_rfl
theorem is53:compFunc Tryz.prog tr53 53=some cf53:=by kernel_rfl
theorem is54:compFunc Tryz.prog tr54 54=some cf54:=by kernel_rfl
theorem is55:compFunc Tryz.prog tr55 55=some cf55:=by kernel_rfl
theorem is56:compFunc Tryz.prog tr56 56=some cf56:=by kernel_rfl
theorem is57:compFunc Tryz.prog tr57 57=some cf57:=by kernel_rfl
theorem is58:compFunc Tryz.prog tr58 58=some cf58:=by kernel_rfl
theorem is59:compFunc Tryz.prog tr59 59=some cf59:=by kernel_rfl
theorem is60:compFunc Tryz.prog tr60 60=some cf60:=by kernel_rfl
theorem is61:compFunc Tryz.prog tr61 61=some cf61:=by kernel_rfl
theorem is62:compFunc Tryz.prog tr62 62=some cf62:=by kernel_rfl
theorem is63:compFunc Tryz.prog tr63 63=some cf63:=by kernel_rfl
theorem is71:compFunc Tryz.prog tr71 71=some cf71:=by kernel_rfl
theorem is72:compFunc Tryz.prog tr72 72=some cf72:=by kernel_rfl
theorem is75:compFunc Tryz.prog tr75 75=some cf75:=by kernel_rfl
theorem is76:compFunc Tryz.prog tr76 76=some cf76:=by kernel_rfl
theorem is77:compFunc Tryz.prog tr77 77=some cf77:=by kernel_rfl
theorem is78:compFunc Tryz.prog tr78 78=some cf78:=by kernel_rfl
theorem is79:compFunc Tryz.prog tr79 79=some cf79:=by kernel_rfl
theorem is80:compFunc Tryz.prog tr80 80=some cf80:=by kernel_rfl
theorem is86:compFunc Tryz.prog tr86 86=some cf86:=by kernel_rfl
theorem is87:compFunc Tryz.prog tr87 87=some cf87:=by kernel_rfl
theorem is88:compFunc Tryz.prog tr88 88=some cf88:=by kernel_rfl
theorem is89:compFunc Tryz.prog tr89 89=some cf89:=by kernel_rfl
theorem is99:compFunc Tryz.prog tr99 99=some cf99:=by kernel_rfl
theorem is100:compFunc Tryz.prog tr100 100=some cf100:=by kernel_rfl
theorem is101:compFunc Tryz.prog tr101 101=some cf101:=by kernel_rfl
theorem is102:compFunc Tryz.prog tr102 102=some cf102:=by kernel_rfl
theorem is103:compFunc Tryz.prog tr103 103=some cf103:=by kernel_rfl
theorem is104:compFunc Tryz.prog tr104 104=some cf104:=by kernel_rfl
theorem is105:compFunc Tryz.prog tr105 105=some cf105:=by kernel_rfl
theorem is106:compFunc Tryz.prog tr106 106=some cf106:=by kernel_rfl
theorem is107:compFunc Tryz.prog tr107 107=some cf107:=by kernel_rfl
theorem is108:compFunc Tryz.prog tr108 108=some cf108:=by kernel_rfl
theorem is114:compFunc Tryz.prog tr114 114=some cf114:=by kernel_rfl
theorem is115:compFunc Tryz.prog tr115 115=some cf115:=by kernel_rfl
theorem is116:compFunc Tryz.prog tr116 116=some cf116:=by kernel_rfl
theorem is117:compFunc Tryz.prog tr117 117=some cf117:=by kernel_rfl
theorem is118:compFunc Tryz.prog tr118 118=some cf118:=by kernel_rfl
theorem is119:compFunc Tryz.prog tr119 119=some cf119:=by kernel_rfl
theorem is120:compFunc Tryz.prog tr120 120=some cf120:=by kernel_rfl
theorem is121:compFunc Tryz.prog tr121 121=some cf121:=by kernel_rfl
theorem is128:compFunc Tryz.prog tr128 128=some cf128:=by kernel_rfl
theorem is129:compFunc Tryz.prog tr129 129=some cf129:=by kernel_rfl
theorem is130:compFunc Tryz.prog tr130 130=some cf130:=by kernel_rfl
theorem is131:compFunc Tryz.prog tr131 131=some cf131:=by kernel_rfl
theorem is132:compFunc Tryz.prog tr132 132=some cf132:=by kernel_rfl
theorem is133:compFunc Tryz.prog tr133 133=some cf133:=by kernel_rfl
theorem is134:compFunc Tryz.prog tr134 134=some cf134:=by kernel_rfl
theorem is135:compFunc Tryz.prog tr135 135=some cf135:=by kernel_rfl
theorem is138:compFunc Tryz.prog tr138 138=some cf138:=by kernel_rfl
theorem is139:compFunc Tryz.prog tr139 139=some cf139:=by kernel_rfl
theorem is140:compFunc Tryz.prog tr140 140=some cf140:=by kernel_rfl
theorem is141:compFunc Tryz.prog tr141 141=some cf141:=by kernel_rfl
theorem is142:compFunc Tryz.prog tr142 142=some cf142:=by kernel_rfl
theorem is148:compFunc Tryz.prog tr148 148=some cf148:=by kernel_rfl
theorem is149:compFunc Tryz.prog tr149 149=some cf149:=by kernel_rfl
theorem is150:compFunc Tryz.prog tr150 150=some cf150:=by kernel_rfl
theorem is151:compFunc Tryz.prog tr151 151=some cf151:=by kernel_rfl
theorem is152:compFunc Tryz.prog tr152 152=some cf152:=by kernel_rfl
theorem is153:compFunc Tryz.prog tr153 153=some cf153:=by kernel_rfl
theorem is154:compFunc Tryz.prog tr154 154=some cf154:=by kernel_rfl
theorem is155:compFunc Tryz.prog tr155 155=some cf155:=by kernel_rfl
theorem is161:compFunc Tryz.prog tr161 161=some cf161:=by kernel_rfl
theorem is162:compFunc Tryz.prog tr162 162=some cf162:=by kernel_rfl
theorem is163:compFunc Tryz.prog tr163 163=some cf163:=by kernel_rfl
theorem is164:compFunc Tryz.prog tr164 164=some cf164:=by kernel_rfl
theorem is165:compFunc Tryz.prog tr165 165=some cf165:=by kernel_rfl
theorem is166:compFunc Tryz.prog tr166 166=some cf166:=by kernel_rfl
theorem is167:compFunc Tryz.prog tr167 167=some cf167:=by kernel_rfl
theorem is168:compFunc Tryz.prog tr168 168=some cf168:=by kernel_rfl
theorem is169:compFunc Tryz.prog tr169 169=some cf169:=by kernel_rfl
theorem is170:compFunc Tryz.prog tr170 170=some cf170:=by kernel_rfl
theorem is171:compFunc Tryz.prog tr171 171=some cf171:=by kernel_rfl
theorem is172:compFunc Tryz.prog tr172 172=some cf172:=by kernel_rfl
theorem is176:compFunc Tryz.prog tr176 176=some cf176:=by kernel_rfl
theorem is177:compFunc Tryz.prog tr177 177=some cf177:=by kernel_rfl
theorem is178:compFunc Tryz.prog tr178 178=some cf178:=by kernel_rfl
theorem is179:compFunc Tryz.prog tr179 179=some cf179:=by kernel_rfl
theorem is180:compFunc Tryz.prog tr180 180=some cf180:=by kernel_rfl
theorem is182:compFunc Tryz.prog tr182 182=some cf182:=by kernel_rfl
theorem is183:compFunc Tryz.prog tr183 183=some cf183:=by kernel_rfl
theorem is184:compFunc Tryz.prog tr184 184=some cf184:=by kernel_rfl
theorem is185:compFunc Tryz.prog tr185 185=some cf185:=by kernel_rfl
theorem is189:compFunc Tryz.prog tr189 189=some cf189:=by kernel_rfl
theorem is190:compFunc Tryz.prog tr190 190=some cf190:=by kernel_rfl
theorem is192:compFunc Tryz.prog tr192 192=some cf192:=by kernel_rfl
theorem is193:compFunc Tryz.prog tr193 193=some cf193:=by kernel_rfl
theorem is194:compFunc Tryz.prog tr194 194=some cf194:=by kernel_rfl
theorem is195:compFunc Tryz.prog tr195 195=some cf195:=by kernel_rfl
theorem is196:compFunc Tryz.prog tr196 196=some cf196:=by kernel_rfl
theorem is197:compFunc Tryz.prog tr197 197=some cf197:=by kernel_rfl
theorem is198:compFunc Tryz.prog tr198 198=some cf198:=by kernel_rfl
theorem is199:compFunc Tryz.prog tr199 199=some cf199:=by kernel_rfl
theorem is200:compFunc Tryz.prog tr200 200=some cf200:=by kernel_rfl
theorem is201:compFunc Tryz.prog tr201 201=some cf201:=by kernel_rfl
theorem is203:compFunc Tryz.prog tr203 203=some cf203:=by kernel_rfl
theorem is204:compFunc Tryz.prog tr204 204=some cf204:=by kernel_rfl
theorem is205:compFunc Tryz.prog tr205 205=some cf205:=by kernel_rfl
theorem is206:compFunc Tryz.prog tr206 206=some cf206:=by kernel_rfl
theorem is207:compFunc Tryz.prog tr207 207=some cf207:=by kernel_rfl
theorem is208:compFunc Tryz.prog tr208 208=some cf208:=by kernel_rfl
theorem is209:compFunc Tryz.prog tr209 209=some cf209:=by kernel_rfl
theorem is210:compFunc Tryz.prog tr210 210=some cf210:=by kernel_rfl
theorem is211:compFunc Tryz.prog tr211 211=some cf211:=by kernel_rfl
theorem is212:compFunc Tryz.prog tr212 212=some cf212:=by kernel_rfl
def cp0x:FuncId→Option CF
 | 8=>some cf8
 | 9=>some cf9
 | 11=>some cf11
 | 12=>some cf12
 | 13=>some cf13
 | 15=>some cf15
 | _=>none
theorem compiled0x(f:FuncId)(cf:CF)(h:cp0x f=some cf):∃t,compFunc Tryz.prog t f=some cf:=by
 unfold cp0x at h
 split at h
 ·cases h;exact⟨_,is8⟩
 ·cases h;exact⟨_,is9⟩
 ·cases h;exact⟨_,is11⟩
 ·cases h;exact⟨_,is12⟩
 ·cases h;exact⟨_,is13⟩
 ·cases h;exact⟨_,is15⟩
 ·simp at h
def cp1x:FuncId→Option CF
 | 16=>some cf16
 | 18=>some cf18
 | 21=>some cf21
 | 23=>some cf23
 | 24=>some cf24
 | 26=>some cf26
 | 27=>some cf27
 | 28=>some cf28
 | 29=>some cf29
 | 30=>some cf30
 | _=>none
theorem compiled1x(f:FuncId)(cf:CF)(h:cp1x f=some cf):∃t,compFunc Tryz.prog t f=some cf:=by
 unfold cp1x at h
 split at h
 ·cases h;exact⟨_,is16⟩
 ·cases h;exact⟨_,is18⟩
 ·cases h;exact⟨_,is21⟩
 ·cases h;exact⟨_,is23⟩
 ·cases h;exact⟨_,is24⟩
 ·cases h;exact⟨_,is26⟩
 ·cases h;exact⟨_,is27⟩
 ·cases h;exact⟨_,is28⟩
 ·cases h;exact⟨_,is29⟩
 ·cases h;exact⟨_,is30⟩
 ·simp at h
def cp2x:FuncId→Option CF
 | 36=>some cf36
 | 38=>some cf38
 | 39=>some cf39
 | 40=>some cf40
 | 41=>some cf41
 | 45=>some cf45
 | 46=>some cf46
 | _=>none
theorem compiled2x(f:FuncId)(cf:CF)(h:cp2x f=some cf):∃t,compFunc Tryz.prog t f=some cf:=by
 unfold cp2x at h
 split at h
 ·cases h;exact⟨_,is36⟩
 ·cases h;exact⟨_,is38⟩
 ·cases h;exact⟨_,is39⟩
 ·cases h;exact⟨_,is40⟩
 ·cases h;exact⟨_,is41⟩
 ·cases h;exact⟨_,is45⟩
 ·cases h;exact⟨_,is46⟩
 ·simp at h
def cp3x:FuncId→Option CF
 | 53=>some cf53
 | 54=>some cf54
 | 55=>some cf55
 | 56=>some cf56
 | 57=>some cf57
 | 58=>some cf58
 | 59=>some cf59
 | 60=>some cf60
 | 61=>some cf61
 | 62=>some cf62
 | 63=>some cf63
 | _=>none
theorem compiled3x(f:FuncId)(cf:CF)(h:cp3x f=some cf):∃t,compFunc Tryz.prog t f=some cf:=by
 unfold cp3x at h
 split at h
 ·cases h;exact⟨_,is53⟩
 ·cases h;exact⟨_,is54⟩
 ·cases h;exact⟨_,is55⟩
 ·cases h;exact⟨_,is56⟩
 ·cases h;exact⟨_,is57⟩
 ·cases h;exact⟨_,is58⟩
 ·cases h;exact⟨_,is59⟩
 ·cases h;exact⟨_,is60⟩
 ·cases h;exact⟨_,is61⟩
 ·cases h;exact⟨_,is62⟩
 ·cases h;exact⟨_,is63⟩
 ·simp at h
def cp4x:FuncId→Option CF
 | 71=>some cf71
 | 72=>some cf72
 | 75=>some cf75
 | 76=>some cf76
 | 77=>some cf77
 | 78=>some cf78
 | 79=>some cf79
 | _=>none
theorem compiled4x(f:FuncId)(cf:CF)(h:cp4x f=some cf):∃t,compFunc Tryz.prog t f=some cf:=by
 unfold cp4x at h
 split at h
 ·cases h;exact⟨_,is71⟩
 ·cases h;exact⟨_,is72⟩
 ·cases h;exact⟨_,is75⟩
 ·cases h;exact⟨_,is76⟩
 ·cases h;exact⟨_,is77⟩
 ·cases h;exact⟨_,is78⟩
 ·cases h;exact⟨_,is79⟩
 ·simp at h
def cp5x:FuncId→Option CF
 | 80=>some cf80
 | 86=>some cf86
 | 87=>some cf87
 | 88=>some cf88
 | 89=>some cf89
 | _=>none
theorem compiled5x(f:FuncId)(cf:CF)(h:cp5x f=some cf):∃t,compFunc Tryz.prog t f=some cf:=by
 unfold cp5x at h
 split at h
 ·cases h;exact⟨_,is80⟩
 ·cases h;exact⟨_,is86⟩
 ·cases h;exact⟨_,is87⟩
 ·cases h;exact⟨_,is88⟩
 ·cases h;exact⟨_,is89⟩
 ·simp at h
def cp6x:FuncId→Option CF
 | 99=>some cf99
 | 100=>some cf100
 | 101=>some cf101
 | 102=>some cf102
 | 103=>some cf103
 | 104=>some cf104
 | 105=>some cf105
 | 106=>some cf106
 | 107=>some cf107
 | 108=>some cf108
 | _=>none
theorem compiled6x(f:FuncId)(cf:CF)(h:cp6x f=some cf):∃t,compFunc Tryz.prog t f=some cf:=by
 unfold cp6x at h
 split at h
 ·cases h;exact⟨_,is99⟩
 ·cases h;exact⟨_,is100⟩
 ·cases h;exact⟨_,is101⟩
 ·cases h;exact⟨_,is102⟩
 ·cases h;exact⟨_,is103⟩
 ·cases h;exact⟨_,is104⟩
 ·cases h;exact⟨_,is105⟩
 ·cases h;exact⟨_,is106⟩
 ·cases h;exact⟨_,is107⟩
 ·cases h;exact⟨_,is108⟩
 ·simp at h
def cp7x:FuncId→Option CF
 | 114=>some cf114
 | 115=>some cf115
 | 116=>some cf116
 | 117=>some cf117
 | 118=>some cf118
 | 119=>some cf119
 | 120=>some cf120
 | 121=>some cf121
 | _=>none
theorem compiled7x(f:FuncId)(cf:CF)(h:cp7x f=some cf):∃t,compFunc Tryz.prog t f=some cf:=by
 unfold cp7x at h
 split at h
 ·cases h;exact⟨_,is114⟩
 ·cases h;exact⟨_,is115⟩
 ·cases h;exact⟨_,is116⟩
 ·cases h;exact⟨_,is117⟩
 ·cases h;exact⟨_,is118⟩
 ·cases h;exact⟨_,is119⟩
 ·cases h;exact⟨_,is120⟩
 ·cases h;exact⟨_,is121⟩
 ·simp at h
def cp8x:FuncId→Option CF
 | 128=>some cf128
 | 129=>some cf129
 | 130=>some cf130
 | 131=>some cf131
 | 132=>some cf132
 | 133=>some cf133
 | 134=>some cf134
 | 135=>some cf135
 | 138=>some cf138
 | 139=>some cf139
 | 140=>some cf140
 | 141=>some cf141
 | 142=>some cf142
 | _=>none
theorem compiled8x(f:FuncId)(cf:CF)(h:cp8x f=some cf):∃t,compFunc Tryz.prog t f=some cf:=by
 unfold cp8x at h
 split at h
 ·cases h;exact⟨_,is128⟩
 ·cases h;exact⟨_,is129⟩
 ·cases h;exact⟨_,is130⟩
 ·cases h;exact⟨_,is131⟩
 ·cases h;exact⟨_,is132⟩
 ·cases h;exact⟨_,is133⟩
 ·cases h;exact⟨_,is134⟩
 ·cases h;exact⟨_,is135⟩
 ·cases h;exact⟨_,is138⟩
 ·cases h;exact⟨_,is139⟩
 ·cases h;exact⟨_,is140⟩
 ·cases h;exact⟨_,is141⟩
 ·cases h;exact⟨_,is142⟩
 ·simp at h
def cp9x:FuncId→Option CF
 | 148=>some cf148
 | 149=>some cf149
 | 150=>some cf150
 | 151=>some cf151
 | 152=>some cf152
 | 153=>some cf153
 | 154=>some cf154
 | 155=>some cf155
 | _=>none
theorem compiled9x(f:FuncId)(cf:CF)(h:cp9x f=some cf):∃t,compFunc Tryz.prog t f=some cf:=by
 unfold cp9x at h
 split at h
 ·cases h;exact⟨_,is148⟩
 ·cases h;exact⟨_,is149⟩
 ·cases h;exact⟨_,is150⟩
 ·cases h;exact⟨_,is151⟩
 ·cases h;exact⟨_,is152⟩
 ·cases h;exact⟨_,is153⟩
 ·cases h;exact⟨_,is154⟩
 ·cases h;exact⟨_,is155⟩
 ·simp at h
def cp10x:FuncId→Option CF
 | 161=>some cf161
 | 162=>some cf162
 | 163=>some cf163
 | 164=>some cf164
 | 165=>some cf165
 | 166=>some cf166
 | 167=>some cf167
 | 168=>some cf168
 | 169=>some cf169
 | 170=>some cf170
 | 171=>some cf171
 | 172=>some cf172
 | _=>none
theorem compiled10x(f:FuncId)(cf:CF)(h:cp10x f=some cf):∃t,compFunc Tryz.prog t f=some cf:=by
 unfold cp10x at h
 split at h
 ·cases h;exact⟨_,is161⟩
 ·cases h;exact⟨_,is162⟩
 ·cases h;exact⟨_,is163⟩
 ·cases h;exact⟨_,is164⟩
 ·cases h;exact⟨_,is165⟩
 ·cases h;exact⟨_,is166⟩
 ·cases h;exact⟨_,is167⟩
 ·cases h;exact⟨_,is168⟩
 ·cases h;exact⟨_,is169⟩
 ·cases h;exact⟨_,is170⟩
 ·cases h;exact⟨_,is171⟩
 ·cases h;exact⟨_,is172⟩
 ·simp at h
def cp11x:FuncId→Option CF
 | 176=>some cf176
 | 177=>some cf177
 | 178=>some cf178
 | 179=>some cf179
 | 180=>some cf180
 | 182=>some cf182
 | 183=>some cf183
 | 184=>some cf184
 | 185=>some cf185
 | 189=>some cf189
 | 190=>some cf190
 | _=>none
theorem compiled11x(f:FuncId)(cf:CF)(h:cp11x f=some cf):∃t,compFunc Tryz.prog t f=some cf:=by
 unfold cp11x at h
 split at h
 ·cases h;exact⟨_,is176⟩
 ·cases h;exact⟨_,is177⟩
 ·cases h;exact⟨_,is178⟩
 ·cases h;exact⟨_,is179⟩
 ·cases h;exact⟨_,is180⟩
 ·cases h;exact⟨_,is182⟩
 ·cases h;exact⟨_,is183⟩
 ·cases h;exact⟨_,is184⟩
 ·cases h;exact⟨_,is185⟩
 ·cases h;exact⟨_,is189⟩
 ·cases h;exact⟨_,is190⟩
 ·simp at h
def cp12x:FuncId→Option CF
 | 192=>some cf192
 | 193=>some cf193
 | 194=>some cf194
 | 195=>some cf195
 | 196=>some cf196
 | 197=>some cf197
 | 198=>some cf198
 | 199=>some cf199
 | 200=>some cf200
 | 201=>some cf201
 | 203=>some cf203
 | 204=>some cf204
 | 205=>some cf205
 | 206=>some cf206
 | 207=>some cf207
 | _=>none
theorem compiled12x(f:FuncId)(cf:CF)(h:cp12x f=some cf):∃t,compFunc Tryz.prog t f=some cf:=by
 unfold cp12x at h
 split at h
 ·cases h;exact⟨_,is192⟩
 ·cases h;exact⟨_,is193⟩
 ·cases h;exact⟨_,is194⟩
 ·cases h;exact⟨_,is195⟩
 ·cases h;exact⟨_,is196⟩
 ·cases h;exact⟨_,is197⟩
 ·cases h;exact⟨_,is198⟩
 ·cases h;exact⟨_,is199⟩
 ·cases h;exact⟨_,is200⟩
 ·cases h;exact⟨_,is201⟩
 ·cases h;exact⟨_,is203⟩
 ·cases h;exact⟨_,is204⟩
 ·cases h;exact⟨_,is205⟩
 ·cases h;exact⟨_,is206⟩
 ·cases h;exact⟨_,is207⟩
 ·simp at h
def cp13x:FuncId→Option CF
 | 208=>some cf208
 | 209=>some cf209
 | 210=>some cf210
 | 211=>some cf211
 | 212=>some cf212
 | _=>none
theorem compiled13x(f:FuncId)(cf:CF)(h:cp13x f=some cf):∃t,compFunc Tryz.prog t f=some cf:=by
 unfold cp13x at h
 split at h
 ·cases h;exact⟨_,is208⟩
 ·cases h;exact⟨_,is209⟩
 ·cases h;exact⟨_,is210⟩
 ·cases h;exact⟨_,is211⟩
 ·cases h;exact⟨_,is212⟩
 ·simp at h
theorem plain0x(f:FuncId)(cf:CF)(h:cp0x f=some cf):plainCF cf=true:=by
 unfold cp0x at h
 split at h
 ·cases h;kernel_rfl
 ·cases h;kernel_rfl
 ·cases h;kernel_rfl
 ·cases h;kernel_rfl
 ·cases h;kernel_rfl
 ·cases h;kernel_rfl
 ·simp at h
theorem plain1x(f:FuncId)(cf:CF)(h:cp1x f=some cf):plainCF cf=true:=by
 unfold cp1x at h
 split at h
 ·cases h;kernel_rfl
 ·cases h;kernel_rfl
 ·cases h;kernel_rfl
 ·cases h;kernel_rfl
 ·cases h;kernel_rfl
 ·cases h;kernel_rfl
 ·cases h;kernel_rfl
 ·cases h;kernel_rfl
 ·cases h;kernel_rfl
 ·cases h;kernel_rfl
 ·simp at h
theorem plain2x(f:FuncId)(cf:CF)(h:cp2x f=some cf):plainCF cf=true:=by
 unfold cp2x at h
 split at h
 ·cases h;kernel_rfl
 ·cases h;kernel_rfl
 ·cases h;kernel_rfl
 ·cases h;kernel_rfl
 ·cases h;kernel_rfl
 ·cases h;kernel_rfl
 ·cases h;kernel_rfl
 ·simp at h
theorem plain3x(f:FuncId)(cf:CF)(h:cp3x f=some cf):plainCF cf=true:=by
 unfold cp3x at h
 split at h
 ·cases h;kernel_rfl
 ·cases h;kernel_rfl
 ·cases h;kernel_rfl
 ·cases h;kernel_rfl
 ·cases h;kernel_rfl
 ·cases h;kernel_rfl
 ·cases h;kernel_rfl
 ·cases h;kernel_rfl
 ·cases h;kernel_rfl
 ·cases h;kernel_rfl
 ·cases h;kernel_rfl
 ·simp at h
theorem plain4x(f:FuncId)(cf:CF)(h:cp4x f=some cf):plainCF cf=true:=by
 unfold cp4x at h
 split at h
 ·cases h;kernel_rfl
 ·cases h;kernel_rfl
 ·cases h;kernel_rfl
 ·cases h;kernel_rfl
 ·cases h;kernel_rfl
 ·cases h;kernel_rfl
 ·cases h;kernel_rfl
 ·simp at h
theorem plain5x(f:FuncId)(cf:CF)(h:cp5x f=some cf):plainCF cf=true:=by
 unfold cp5x at h
 split at h
 ·cases h;kernel_rfl
 ·cases h;kernel_rfl
 ·cases h;kernel_rfl
 ·cases h;kernel_rfl
 ·cases h;kernel_rfl
 ·simp at h
theorem plain6x(f:FuncId)(cf:CF)(h:cp6x f=some cf):plainCF cf=true:=by
 unfold cp6x at h
 split at h
 ·cases h;kernel_rfl
 ·cases h;kernel_rfl
 ·cases h;kernel_rfl
 ·cases h;kernel_rfl
 ·cases h;kernel_rfl
 ·cases h;kernel_rfl
 ·cases h;kernel_rfl
 ·cases h;kernel_rfl
 ·cases h;kernel_rfl
 ·cases h;kernel_rfl
 ·simp at h
theorem plain7x(f:FuncId)(cf:CF)(h:cp7x f=some cf):plainCF cf=true:=by
 unfold cp7x at h
 split at h
 ·cases h;kernel_rfl
 ·cases h;kernel_rfl
 ·cases h;kernel_rfl
 ·cases h;kernel_rfl
 ·cases h;kernel_rfl
 ·cases h;kernel_rfl
 ·cases h;kernel_rfl
 ·cases h;kernel_rfl
 ·simp at h
theorem plain8x(f:FuncId)(cf:CF)(h:cp8x f=some cf):plainCF cf=true:=by
 unfold cp8x at h
 split at h
 ·cases h;kernel_rfl
 ·cases h;kernel_rfl
 ·cases h;kernel_rfl
 ·cases h;kernel_rfl
 ·cases h;kernel_rfl
 ·cases h;kernel_rfl
 ·cases h;kernel_rfl
 ·cases h;kernel_rfl
 ·cases h;kernel_rfl
 ·cases h;kernel_rfl
 ·cases h;kernel_rfl
 ·cases h;kernel_rfl
 ·cases h;kernel_rfl
 ·simp at h
theorem plain9x(f:FuncId)(cf:CF)(h:cp9x f=some cf):plainCF cf=true:=by
 unfold cp9x at h
 split at h
 ·cases h;kernel_rfl
 ·cases h;kernel_rfl
 ·cases h;kernel_rfl
 ·cases h;kernel_rfl
 ·cases h;kernel_rfl
 ·cases h;kernel_rfl
 ·cases h;kernel_rfl
 ·cases h;kernel_rfl
 ·simp at h
theorem plain10x(f:FuncId)(cf:CF)(h:cp10x f=some cf):plainCF cf=true:=by
 unfold cp10x at h
 split at h
 ·cases h;kernel_rfl
 ·cases h;kernel_rfl
 ·cases h;kernel_rfl
 ·cases h;kernel_rfl
 ·cases h;kernel_rfl
 ·cases h;kernel_rfl
 ·cases h;kernel_rfl
 ·cases h;kernel_rfl
 ·cases h;kernel_rfl
 ·cases h;kernel_rfl
 ·cases h;kernel_rfl
 ·cases h;kernel_rfl
 ·simp at h
theorem plain11x(f:FuncId)(cf:CF)(h:cp11x f=some cf):plainCF cf=true:=by
 unfold cp11x at h
 split at h
 ·cases h;kernel_rfl
 ·cases h;kernel_rfl
 ·cases h;kernel_rfl
 ·cases h;kernel_rfl
 ·cases h;kernel_rfl
 ·cases h;kernel_rfl
 ·cases h;kernel_rfl
 ·cases h;kernel_rfl
 ·cases h;kernel_rfl
 ·cases h;kernel_rfl
 ·cases h;kernel_rfl
 ·simp at h
theorem plain12x(f:FuncId)(cf:CF)(h:cp12x f=some cf):plainCF cf=true:=by
 unfold cp12x at h
 split at h
 ·cases h;kernel_rfl
 ·cases h;kernel_rfl
 ·cases h;kernel_rfl
 ·cases h;kernel_rfl
 ·cases h;kernel_rfl
 ·cases h;kernel_rfl
 ·cases h;kernel_rfl
 ·cases h;kernel_rfl
 ·cases h;kernel_rfl
 ·cases h;kernel_rfl
 ·cases h;kernel_rfl
 ·cases h;kernel_rfl
 ·cases h;kernel_rfl
 ·cases h;kernel_rfl
 ·cases h;kernel_rfl
 ·simp at h
theorem plain13x(f:FuncId)(cf:CF)(h:cp13x f=some cf):plainCF cf=true:=by
 unfold cp13x at h
 split at h
 ·cases h;kernel_rfl
 ·cases h;kernel_rfl
 ·cases h;kernel_rfl
 ·cases h;kernel_rfl
 ·cases h;kernel_rfl
 ·simp at h
def cp(f:FuncId):Option CF:=match f/16 with
 | 0=>cp0x f
 | 1=>cp1x f
 | 2=>cp2x f
 | 3=>cp3x f
 | 4=>cp4x f
 | 5=>cp5x f
 | 6=>cp6x f
 | 7=>cp7x f
 | 8=>cp8x f
 | 9=>cp9x f
 | 10=>cp10x f
 | 11=>cp11x f
 | 12=>cp12x f
 | 13=>cp13x f
 | _=>none
theorem compiled:Compiled Tryz.prog cp:=by
 intro f cf h
 unfold cp at h
 split at h
 ·exact compiled0x f cf h
 ·exact compiled1x f cf h
 ·exact compiled2x f cf h
 ·exact compiled3x f cf h
 ·exact compiled4x f cf h
 ·exact compiled5x f cf h
 ·exact compiled6x f cf h
 ·exact compiled7x f cf h
 ·exact compiled8x f cf h
 ·exact compiled9x f cf h
 ·exact compiled10x f cf h
 ·exact compiled11x f cf h
 ·exact compiled12x f cf h
 ·exact compiled13x f cf h
 ·simp at h
theorem plainCp(f:FuncId)(cf:CF)(h:cp f=some cf):plainCF cf=true:=by
 unfold cp at h
 split at h
 ·exact plain0x f cf h
 ·exact plain1x f cf h
 ·exact plain2x f cf h
 ·exact plain3x f cf h
 ·exact plain4x f cf h
 ·exact plain5x f cf h
 ·exact plain6x f cf h
 ·exact plain7x f cf h
 ·exact plain8x f cf h
 ·exact plain9x f cf h
 ·exact plain10x f cf h
 ·exact plain11x f cf h
 ·exact plain12x f cf h
 ·exact plain13x f cf h
 ·simp at h
theorem mixed:Tryz.prog.follows .mixedOrders=true:=by kernel_rfl
theorem okAll(base n:Nat):RunOK Tryz.prog base Tryz.prog.globals.size (run cp n):=sound mixed compiled base n
theorem st8{lo:Nat}{H:Heap}{R:Value→Heap→Prop}{a0 a1 a2 a3:Value}(h:wpS cp lo bd8 (bodyQ cf8 R) [a0,a1,a2,a3,undef,undef,undef,undef,undef,undef,undef,undef,undef,undef,undef,undef,undef,undef,undef,undef,undef,undef,undef,undef,undef,undef,undef,undef,undef,undef,undef,undef] H):Ev cp lo 8 [a0,a1,a2,a3] H R:=ev_of_wp (cf:=cf8) rfl rfl rfl h
theorem st9{lo:Nat}{H:Heap}{R:Value→Heap→Prop}{a0 a1:Value}(h:wpS cp lo bd9 (bodyQ cf9 R) [a0,a1,undef,undef,undef,undef,undef,undef,undef,undef,undef,undef,undef,undef,undef,undef,undef,undef,undef,undef] H):Ev cp lo 9 [a0,a1] H R:=ev_of_wp (cf:=cf9) rfl rfl rfl h
theorem st11{lo:Nat}{H:Heap}{R:Value→Heap→Prop}{a0 a1 a2 a3:Value}(h:wpS cp lo bd11 (bodyQ cf11 R) [a0,a1,a2,a3,undef,undef,undef,undef,undef,undef,undef,undef,undef,undef,undef,undef,undef,undef,undef,undef,undef,undef,undef,undef] H):Ev cp lo 11 [a0,a1,a2,a3] H R:=ev_of_wp (cf:=cf11) rfl rfl rfl h
theorem st12{lo:Nat}{H:Heap}{R:Value→Heap→Prop}(h:wpS cp lo bd12 (bodyQ cf12 R) [undef,undef,undef,undef,undef,undef,undef,undef,undef,undef,undef,undef,undef,undef,undef,undef,undef,undef,undef,undef,undef,undef,undef,undef,undef,undef,undef,undef,undef,undef,undef,undef,undef,undef,undef] H):Ev cp lo 12 [] H R:=ev_of_wp (cf:=cf12) rfl rfl rfl h
theorem st13{lo:Nat}{H:Heap}{R:Value→Heap→Prop}{a0 a1:Value}(h:wpS cp lo bd13 (bodyQ cf13 R) [a0,a1,undef,undef,undef,undef,undef,undef,undef,undef,undef,undef,undef,undef,undef,undef,undef,undef,undef,undef,undef,undef,undef,undef,undef,undef,undef] H):Ev cp lo 13 [a0,a1] H R:=ev_of_wp (cf:=cf13) rfl rfl rfl h
theorem st15{lo:Nat}{H:Heap}{R:Value→Heap→Prop}{a0 a1:Value}(h:wpS cp lo bd15 (bodyQ cf15 R) [a0,a1,undef,undef] H):Ev cp lo 15 [a0,a1] H R:=ev_of_wp (cf:=cf15) rfl rfl rfl h
theorem st16{lo:Nat}{H:Heap}{R:Value→Heap→Prop}{a0 a1:Value}(h:wpS cp lo bd16 (bodyQ cf16 R) [a0,a1,undef,undef,undef,undef,undef,undef,undef,undef,undef,undef,undef,undef,undef,undef,undef,undef,undef,undef,undef,undef,undef,undef,undef,undef,undef,undef,undef,undef,undef,undef] H):Ev cp lo 16 [a0,a1] H R:=ev_of_wp (cf:=cf16) rfl rfl rfl h
theorem st18{lo:Nat}{H:Heap}{R:Value→Heap→Prop}{a0 a1:Value}(h:wpS cp lo bd18 (bodyQ cf18 R) [a0,a1,undef,undef,undef,undef,undef,undef,undef,undef,undef,undef,undef,undef,undef,undef,undef,undef,undef,undef,undef] H):Ev cp lo 18 [a0,a1] H R:=ev_of_wp (cf:=cf18) rfl rfl rfl h
theorem st21{lo:Nat}{H:Heap}{R:Value→Heap→Prop}{a0:Value}(h:wpS cp lo bd21 (bodyQ cf21 R) [a0,undef,undef,undef,undef,undef,undef,undef,undef,undef,undef,undef,undef,undef,undef,undef,undef] H):Ev cp lo 21 [a0] H R:=ev_of_wp (cf:=cf21) rfl rfl rfl h
theorem st23{lo:Nat}{H:Heap}{R:Value→Heap→Prop}{a0:Value}(h:wpS cp lo bd23 (bodyQ cf23 R) [a0,undef,undef,undef] H):Ev cp lo 23 [a0] H R:=ev_of_wp (cf:=cf23) rfl rfl rfl h
theorem st24{lo:Nat}{H:Heap}{R:Value→Heap→Prop}{a0 a1:Value}(h:wpS cp lo bd24 (bodyQ cf24 R) [a0,a1,undef,undef,undef,undef,undef,undef,undef] H):Ev cp lo 24 [a0,a1] H R:=ev_of_wp (cf:=cf24) rfl rfl rfl h
theorem st27{lo:Nat}{H:Heap}{R:Value→Heap→Prop}{a0 a1 a2:Value}(h:wpS cp lo bd27 (bodyQ cf27 R) [a0,a1,a2,undef,undef,undef,undef,undef,undef,undef,undef,undef] H):Ev cp lo 27 [a0,a1,a2] H R:=ev_of_wp (cf:=cf27) rfl rfl rfl h
theorem st28{lo:Nat}{H:Heap}{R:Value→Heap→Prop}{a0:Value}(h:wpS cp lo bd28 (bodyQ cf28 R) [a0,undef,undef,undef,undef,undef,undef,undef,undef,undef,undef,undef] H):Ev cp lo 28 [a0] H R:=ev_of_wp (cf:=cf28) rfl rfl rfl h
theorem st29{lo:Nat}{H:Heap}{R:Value→Heap→Prop}{a0 a1:Value}(h:wpS cp lo bd29 (bodyQ cf29 R) [a0,a1,undef,undef,undef,undef,undef,undef,undef,undef,undef,undef,undef,undef,undef,undef,undef,undef,undef,undef,undef,undef,undef,undef,undef,undef,undef,undef,undef,undef,undef,undef,undef,undef,undef] H):Ev cp lo 29 [a0,a1] H R:=ev_of_wp (cf:=cf29) rfl rfl rfl h
theorem st30{lo:Nat}{H:Heap}{R:Value→Heap→Prop}{a0 a1 a2:Value}(h:wpS cp lo bd30 (bodyQ cf30 R) [a0,a1,a2,undef,undef,undef,undef,undef,undef] H):Ev cp lo 30 [a0,a1,a2] H R:=ev_of_wp (cf:=cf30) rfl rfl rfl h
theorem st36{lo:Nat}{H:Heap}{R:Value→Heap→Prop}{a0 a1 a2:Value}(h:wpS cp lo bd36 (bodyQ cf36 R) [a0,a1,a2,undef,undef,undef,undef,undef,undef,undef,undef,undef,undef,undef,undef,undef,undef,undef,undef,undef,undef,undef,undef,undef,undef,undef,undef,undef,undef,undef,undef,undef] H):Ev cp lo 36 [a0,a1,a2] H R:=ev_of_wp (cf:=cf36) rfl rfl rfl h
theorem st54{lo:Nat}{H:Heap}{R:Value→Heap→Prop}{a0 a1:Value}(h:wpS cp lo bd54 (bodyQ cf54 R) [a0,a1,undef,undef,undef] H):Ev cp lo 54 [a0,a1] H R:=ev_of_wp (cf:=cf54) rfl rfl rfl h
theorem st56{lo:Nat}{H:Heap}{R:Value→Heap→Prop}{a0 a1:Value}(h:wpS cp lo bd56 (bodyQ cf56 R) [a0,a1,undef,undef,undef,undef,undef] H):Ev cp lo 56 [a0,a1] H R:=ev_of_wp (cf:=cf56) rfl rfl rfl h
theorem st57{lo:Nat}{H:Heap}{R:Value→Heap→Prop}{a0 a1 a2:Value}(h:wpS cp lo bd57 (bodyQ cf57 R) [a0,a1,a2,undef,undef,undef,undef,undef] H):Ev cp lo 57 [a0,a1,a2] H R:=ev_of_wp (cf:=cf57) rfl rfl rfl h
theorem st58{lo:Nat}{H:Heap}{R:Value→Heap→Prop}{a0 a1:Value}(h:wpS cp lo bd58 (bodyQ cf58 R) [a0,a1,undef,undef,undef,undef,undef,undef,undef] H):Ev cp lo 58 [a0,a1] H R:=ev_of_wp (cf:=cf58) rfl rfl rfl h
theorem st59{lo:Nat}{H:Heap}{R:Value→Heap→Prop}{a0 a1:Value}(h:wpS cp lo bd59 (bodyQ cf59 R) [a0,a1,undef,undef] H):Ev cp lo 59 [a0,a1] H R:=ev_of_wp (cf:=cf59) rfl rfl rfl h
theorem st60{lo:Nat}{H:Heap}{R:Value→Heap→Prop}{a0:Value}(h:wpS cp lo bd60 (bodyQ cf60 R) [a0,undef,undef,undef,undef,undef,undef,undef,undef,undef,undef,undef,undef,undef,undef,undef] H):Ev cp lo 60 [a0] H R:=ev_of_wp (cf:=cf60) rfl rfl rfl h
theorem st61{lo:Nat}{H:Heap}{R:Value→Heap→Prop}{a0 a1 a2:Value}(h:wpS cp lo bd61 (bodyQ cf61 R) [a0,a1,a2,undef,undef,undef,undef,undef,undef,undef,undef,undef] H):Ev cp lo 61 [a0,a1,a2] H R:=ev_of_wp (cf:=cf61) rfl rfl rfl h
theorem st62{lo:Nat}{H:Heap}{R:Value→Heap→Prop}{a0:Value}(h:wpS cp lo bd62 (bodyQ cf62 R) [a0,undef,undef,undef] H):Ev cp lo 62 [a0] H R:=ev_of_wp (cf:=cf62) rfl rfl rfl h
theorem st63{lo:Nat}{H:Heap}{R:Value→Heap→Prop}{a0 a1 a2:Value}(h:wpS cp lo bd63 (bodyQ cf63 R) [a0,a1,a2,undef,undef,undef,undef,undef,undef] H):Ev cp lo 63 [a0,a1,a2] H R:=ev_of_wp (cf:=cf63) rfl rfl rfl h
theorem st71{lo:Nat}{H:Heap}{R:Value→Heap→Prop}{a0:Value}(h:wpS cp lo bd71 (bodyQ cf71 R) [a0,undef,undef,undef,undef,undef,undef,undef,undef,undef,undef,undef,undef,undef,undef,undef,undef,undef,undef,undef,undef,undef] H):Ev cp lo 71 [a0] H R:=ev_of_wp (cf:=cf71) rfl rfl rfl h
theorem st72{lo:Nat}{H:Heap}{R:Value→Heap→Prop}{a0:Value}(h:wpS cp lo bd72 (bodyQ cf72 R) [a0,undef,undef,undef,undef,undef,undef,undef,undef] H):Ev cp lo 72 [a0] H R:=ev_of_wp (cf:=cf72) rfl rfl rfl h
theorem st99{lo:Nat}{H:Heap}{R:Value→Heap→Prop}{a0 a1:Value}(h:wpS cp lo bd99 (bodyQ cf99 R) [a0,a1,undef,undef,undef,undef,undef] H):Ev cp lo 99 [a0,a1] H R:=ev_of_wp (cf:=cf99) rfl rfl rfl h
theorem st100{lo:Nat}{H:Heap}{R:Value→Heap→Prop}{a0:Value}(h:wpS cp lo bd100 (bodyQ cf100 R) [a0,undef,undef,undef,undef,undef,undef,undef,undef,undef,undef,undef] H):Ev cp lo 100 [a0] H R:=ev_of_wp (cf:=cf100) rfl rfl rfl h
theorem st101{lo:Nat}{H:Heap}{R:Value→Heap→Prop}{a0 a1 a2:Value}(h:wpS cp lo bd101 (bodyQ cf101 R) [a0,a1,a2,undef,undef] H):Ev cp lo 101 [a0,a1,a2] H R:=ev_of_wp (cf:=cf101) rfl rfl rfl h
theorem st102{lo:Nat}{H:Heap}{R:Value→Heap→Prop}{a0 a1:Value}(h:wpS cp lo bd102 (bodyQ cf102 R) [a0,a1,undef,undef,undef,undef,undef,undef] H):Ev cp lo 102 [a0,a1] H R:=ev_of_wp (cf:=cf102) rfl rfl rfl h
theorem st103{lo:Nat}{H:Heap}{R:Value→Heap→Prop}{a0 a1:Value}(h:wpS cp lo bd103 (bodyQ cf103 R) [a0,a1,undef,undef] H):Ev cp lo 103 [a0,a1] H R:=ev_of_wp (cf:=cf103) rfl rfl rfl h
theorem st104{lo:Nat}{H:Heap}{R:Value→Heap→Prop}{a0 a1:Value}(h:wpS cp lo bd104 (bodyQ cf104 R) [a0,a1,undef,undef,undef,undef,undef,undef,undef,undef,undef,undef,undef,undef,undef,undef,undef] H):Ev cp lo 104 [a0,a1] H R:=ev_of_wp (cf:=cf104) rfl rfl rfl h
theorem st105{lo:Nat}{H:Heap}{R:Value→Heap→Prop}{a0 a1:Value}(h:wpS cp lo bd105 (bodyQ cf105 R) [a0,a1,undef,undef,undef,undef,undef,undef,undef,undef,undef,undef] H):Ev cp lo 105 [a0,a1] H R:=ev_of_wp (cf:=cf105) rfl rfl rfl h
theorem st106{lo:Nat}{H:Heap}{R:Value→Heap→Prop}{a0:Value}(h:wpS cp lo bd106 (bodyQ cf106 R) [a0,undef,undef,undef,undef,undef,undef,undef,undef,undef,undef,undef,undef,undef,undef,undef,undef,undef,undef,undef,undef,undef] H):Ev cp lo 106 [a0] H R:=ev_of_wp (cf:=cf106) rfl rfl rfl h
theorem st107{lo:Nat}{H:Heap}{R:Value→Heap→Prop}{a0 a1 a2:Value}(h:wpS cp lo bd107 (bodyQ cf107 R) [a0,a1,a2,undef,undef,undef,undef,undef,undef,undef,undef,undef,undef,undef,undef,undef,undef,undef,undef,undef,undef,undef,undef,undef,undef] H):Ev cp lo 107 [a0,a1,a2] H R:=ev_of_wp (cf:=cf107) rfl rfl rfl h
theorem st108{lo:Nat}{H:Heap}{R:Value→Heap→Prop}{a0 a1:Value}(h:wpS cp lo bd108 (bodyQ cf108 R) [a0,a1,undef,undef,undef,undef,undef,undef,undef] H):Ev cp lo 108 [a0,a1] H R:=ev_of_wp (cf:=cf108) rfl rfl rfl h
theorem st114{lo:Nat}{H:Heap}{R:Value→Heap→Prop}{a0:Value}(h:wpS cp lo bd114 (bodyQ cf114 R) [a0,undef,undef,undef,undef,undef] H):Ev cp lo 114 [a0] H R:=ev_of_wp (cf:=cf114) rfl rfl rfl h
theorem st115{lo:Nat}{H:Heap}{R:Value→Heap→Prop}{a0 a1 a2:Value}(h:wpS cp lo bd115 (bodyQ cf115 R) [a0,a1,a2,undef,undef,undef,undef,undef,undef,undef] H):Ev cp lo 115 [a0,a1,a2] H R:=ev_of_wp (cf:=cf115) rfl rfl rfl h
theorem st116{lo:Nat}{H:Heap}{R:Value→Heap→Prop}{a0:Value}(h:wpS cp lo bd116 (bodyQ cf116 R) [a0,undef,undef,undef] H):Ev cp lo 116 [a0] H R:=ev_of_wp (cf:=cf116) rfl rfl rfl h
theorem st117{lo:Nat}{H:Heap}{R:Value→Heap→Prop}{a0:Value}(h:wpS cp lo bd117 (bodyQ cf117 R) [a0,undef,undef,undef,undef,undef,undef,undef,undef,undef,undef,undef,undef,undef,undef,undef,undef] H):Ev cp lo 117 [a0] H R:=ev_of_wp (cf:=cf117) rfl rfl rfl h
theorem st118{lo:Nat}{H:Heap}{R:Value→Heap→Prop}{a0:Value}(h:wpS cp lo bd118 (bodyQ cf118 R) [a0,undef,undef,undef,undef,undef] H):Ev cp lo 118 [a0] H R:=ev_of_wp (cf:=cf118) rfl rfl rfl h
theorem st119{lo:Nat}{H:Heap}{R:Value→Heap→Prop}{a0:Value}(h:wpS cp lo bd119 (bodyQ cf119 R) [a0,undef,undef,undef,undef,undef,undef,undef,undef,undef,undef,undef,undef,undef,undef,undef,undef,undef,undef,undef,undef,undef,undef] H):Ev cp lo 119 [a0] H R:=ev_of_wp (cf:=cf119) rfl rfl rfl h
theorem st120{lo:Nat}{H:Heap}{R:Value→Heap→Prop}{a0:Value}(h:wpS cp lo bd120 (bodyQ cf120 R) [a0,undef,undef,undef,undef,undef,undef,undef,undef,undef,undef,undef,undef,undef,undef,undef,undef,undef,undef,undef,undef,undef,undef,undef,undef,undef,undef,undef,undef,undef,undef,undef,undef,undef,undef,undef] H):Ev cp lo 120 [a0] H R:=ev_of_wp (cf:=cf120) rfl rfl rfl h
theorem st121{lo:Nat}{H:Heap}{R:Value→Heap→Prop}{a0:Value}(h:wpS cp lo bd121 (bodyQ cf121 R) [a0,undef,undef,undef,undef,undef] H):Ev cp lo 121 [a0] H R:=ev_of_wp (cf:=cf121) rfl rfl rfl h
theorem st148{lo:Nat}{H:Heap}{R:Value→Heap→Prop}{a0:Value}(h:wpS cp lo bd148 (bodyQ cf148 R) [a0,undef,undef] H):Ev cp lo 148 [a0] H R:=ev_of_wp (cf:=cf148) rfl rfl rfl h
theorem st149{lo:Nat}{H:Heap}{R:Value→Heap→Prop}{a0:Value}(h:wpS cp lo bd149 (bodyQ cf149 R) [a0,undef,undef] H):Ev cp lo 149 [a0] H R:=ev_of_wp (cf:=cf149) rfl rfl rfl h
theorem st150{lo:Nat}{H:Heap}{R:Value→Heap→Prop}{a0:Value}(h:wpS cp lo bd150 (bodyQ cf150 R) [a0,undef,undef,undef,undef,undef,undef] H):Ev cp lo 150 [a0] H R:=ev_of_wp (cf:=cf150) rfl rfl rfl h
theorem st151{lo:Nat}{H:Heap}{R:Value→Heap→Prop}{a0 a1:Value}(h:wpS cp lo bd151 (bodyQ cf151 R) [a0,a1,undef,undef,undef,undef,undef,undef] H):Ev cp lo 151 [a0,a1] H R:=ev_of_wp (cf:=cf151) rfl rfl rfl h
theorem st152{lo:Nat}{H:Heap}{R:Value→Heap→Prop}{a0 a1 a2 a3:Value}(h:wpS cp lo bd152 (bodyQ cf152 R) [a0,a1,a2,a3,undef,undef,undef,undef,undef,undef,undef,undef,undef,undef,undef,undef,undef,undef,undef] H):Ev cp lo 152 [a0,a1,a2,a3] H R:=ev_of_wp (cf:=cf152) rfl rfl rfl h
theorem st153{lo:Nat}{H:Heap}{R:Value→Heap→Prop}{a0 a1 a2:Value}(h:wpS cp lo bd153 (bodyQ cf153 R) [a0,a1,a2,undef,undef] H):Ev cp lo 153 [a0,a1,a2] H R:=ev_of_wp (cf:=cf153) rfl rfl rfl h
theorem st154{lo:Nat}{H:Heap}{R:Value→Heap→Prop}{a0 a1 a2:Value}(h:wpS cp lo bd154 (bodyQ cf154 R) [a0,a1,a2,undef,undef] H):Ev cp lo 154 [a0,a1,a2] H R:=ev_of_wp (cf:=cf154) rfl rfl rfl h
theorem st155{lo:Nat}{H:Heap}{R:Value→Heap→Prop}{a0 a1 a2:Value}(h:wpS cp lo bd155 (bodyQ cf155 R) [a0,a1,a2,undef,undef] H):Ev cp lo 155 [a0,a1,a2] H R:=ev_of_wp (cf:=cf155) rfl rfl rfl h
theorem st161{lo:Nat}{H:Heap}{R:Value→Heap→Prop}{a0:Value}(h:wpS cp lo bd161 (bodyQ cf161 R) [a0,undef,undef,undef,undef,undef] H):Ev cp lo 161 [a0] H R:=ev_of_wp (cf:=cf161) rfl rfl rfl h
theorem st162{lo:Nat}{H:Heap}{R:Value→Heap→Prop}{a0 a1 a2:Value}(h:wpS cp lo bd162 (bodyQ cf162 R) [a0,a1,a2,undef,undef,undef] H):Ev cp lo 162 [a0,a1,a2] H R:=ev_of_wp (cf:=cf162) rfl rfl rfl h
theorem st163{lo:Nat}{H:Heap}{R:Value→Heap→Prop}{a0 a1 a2:Value}(h:wpS cp lo bd163 (bodyQ cf163 R) [a0,a1,a2,undef,undef,undef,undef,undef,undef,undef,undef,undef,undef,undef,undef,undef,undef,undef,undef,undef,undef,undef,undef] H):Ev cp lo 163 [a0,a1,a2] H R:=ev_of_wp (cf:=cf163) rfl rfl rfl h
theorem st164{lo:Nat}{H:Heap}{R:Value→Heap→Prop}{a0 a1 a2 a3 a4:Value}(h:wpS cp lo bd164 (bodyQ cf164 R) [a0,a1,a2,a3,a4,undef,undef,undef,undef,undef,undef,undef,undef,undef,undef,undef,undef,undef,undef,undef] H):Ev cp lo 164 [a0,a1,a2,a3,a4] H R:=ev_of_wp (cf:=cf164) rfl rfl rfl h
theorem st165{lo:Nat}{H:Heap}{R:Value→Heap→Prop}{a0 a1:Value}(h:wpS cp lo bd165 (bodyQ cf165 R) [a0,a1,undef] H):Ev cp lo 165 [a0,a1] H R:=ev_of_wp (cf:=cf165) rfl rfl rfl h
theorem st166{lo:Nat}{H:Heap}{R:Value→Heap→Prop}{a0 a1 a2 a3:Value}(h:wpS cp lo bd166 (bodyQ cf166 R) [a0,a1,a2,a3,undef,undef,undef,undef,undef,undef,undef,undef,undef,undef,undef,undef,undef,undef,undef,undef] H):Ev cp lo 166 [a0,a1,a2,a3] H R:=ev_of_wp (cf:=cf166) rfl rfl rfl h
theorem st167{lo:Nat}{H:Heap}{R:Value→Heap→Prop}{a0 a1:Value}(h:wpS cp lo bd167 (bodyQ cf167 R) [a0,a1,undef,undef,undef,undef,undef,undef,undef,undef,undef,undef,undef,undef,undef,undef,undef,undef,undef,undef,undef,undef,undef,undef,undef,undef,undef,undef] H):Ev cp lo 167 [a0,a1] H R:=ev_of_wp (cf:=cf167) rfl rfl rfl h
theorem st168{lo:Nat}{H:Heap}{R:Value→Heap→Prop}{a0 a1 a2:Value}(h:wpS cp lo bd168 (bodyQ cf168 R) [a0,a1,a2,undef,undef,undef,undef,undef,undef,undef,undef] H):Ev cp lo 168 [a0,a1,a2] H R:=ev_of_wp (cf:=cf168) rfl rfl rfl h
theorem st169{lo:Nat}{H:Heap}{R:Value→Heap→Prop}{a0 a1:Value}(h:wpS cp lo bd169 (bodyQ cf169 R) [a0,a1,undef,undef,undef,undef,undef,undef,undef,undef] H):Ev cp lo 169 [a0,a1] H R:=ev_of_wp (cf:=cf169) rfl rfl rfl h
theorem st170{lo:Nat}{H:Heap}{R:Value→Heap→Prop}{a0 a1 a2:Value}(h:wpS cp lo bd170 (bodyQ cf170 R) [a0,a1,a2,undef,undef] H):Ev cp lo 170 [a0,a1,a2] H R:=ev_of_wp (cf:=cf170) rfl rfl rfl h
theorem st171{lo:Nat}{H:Heap}{R:Value→Heap→Prop}{a0 a1 a2:Value}(h:wpS cp lo bd171 (bodyQ cf171 R) [a0,a1,a2,undef,undef] H):Ev cp lo 171 [a0,a1,a2] H R:=ev_of_wp (cf:=cf171) rfl rfl rfl h
theorem st172{lo:Nat}{H:Heap}{R:Value→Heap→Prop}{a0 a1 a2:Value}(h:wpS cp lo bd172 (bodyQ cf172 R) [a0,a1,a2,undef,undef] H):Ev cp lo 172 [a0,a1,a2] H R:=ev_of_wp (cf:=cf172) rfl rfl rfl h
theorem st189{lo:Nat}{H:Heap}{R:Value→Heap→Prop}{a0:Value}(h:wpS cp lo bd189 (bodyQ cf189 R) [a0,undef,undef,undef] H):Ev cp lo 189 [a0] H R:=ev_of_wp (cf:=cf189) rfl rfl rfl h
theorem st190{lo:Nat}{H:Heap}{R:Value→Heap→Prop}{a0 a1:Value}(h:wpS cp lo bd190 (bodyQ cf190 R) [a0,a1,undef,undef,undef,undef,undef,undef,undef] H):Ev cp lo 190 [a0,a1] H R:=ev_of_wp (cf:=cf190) rfl rfl rfl h
theorem st192{lo:Nat}{H:Heap}{R:Value→Heap→Prop}{a0 a1:Value}(h:wpS cp lo bd192 (bodyQ cf192 R) [a0,a1,undef,undef,undef,undef,undef] H):Ev cp lo 192 [a0,a1] H R:=ev_of_wp (cf:=cf192) rfl rfl rfl h
theorem st193{lo:Nat}{H:Heap}{R:Value→Heap→Prop}{a0 a1 a2:Value}(h:wpS cp lo bd193 (bodyQ cf193 R) [a0,a1,a2,undef,undef] H):Ev cp lo 193 [a0,a1,a2] H R:=ev_of_wp (cf:=cf193) rfl rfl rfl h
theorem st204{lo:Nat}{H:Heap}{R:Value→Heap→Prop}{a0:Value}(h:wpS cp lo bd204 (bodyQ cf204 R) [a0,undef] H):Ev cp lo 204 [a0] H R:=ev_of_wp (cf:=cf204) rfl rfl rfl h
end Go.Proofs.YtmnlgdpdgjbfgaaGreat
