/- Lemmas. -/
import Derived.Test.YtmnlgdpdgjbfgaaGreatE8
import Derived.Test.YtmnlgdpdgjbfgaaGreatProg
import Derived.KernelRfl
set_option linter.unusedVariables false
set_option linter.unusedSimpArgs false
set_option linter.unusedSectionVars false
namespace Go.Proofs.YtmnlgdpdgjbfgaaGreat
open Go.Abs
def I4:ByteArray:=⟨#[0,1,2,2,3,3,3,3,4,4,4,4,4,4,4,4,5,5,5,5,5,5,5,5,5,5,5,5,5,5,5,5,6,6,6,6,6,6,6,6,6,6,6,6,6,6,6,6,6,6,6,6,6,6,6,6,6,6,6,6,6,6,6,6,7,7,7,7,7,7,7,7,7,7,7,7,7,7,7,7,7,7,7,7,7,7,7,7,7,7,7,7,7,7,7,7,7,7,7,7,7,7,7,7,7,7,7,7,7,7,7,7,7,7,7,7,7,7,7,7,7,7,7,7,7,7,7,7,8,8,8,8,8,8,8,8,8,8,8,8,8,8,8,8,8,8,8,8,8,8,8,8,8,8,8,8,8,8,8,8,8,8,8,8,8,8,8,8,8,8,8,8,8,8,8,8,8,8,8,8,8,8,8,8,8,8,8,8,8,8,8,8,8,8,8,8,8,8,8,8,8,8,8,8,8,8,8,8,8,8,8,8,8,8,8,8,8,8,8,8,8,8,8,8,8,8,8,8,8,8,8,8,8,8,8,8,8,8,8,8,8,8,8,8,8,8,8,8,8,8,8,8,8,8,8,8]⟩
namespace K
def x(n:Nat):E:=.var n
def i(n:Int):E:=.cst (.int .i64 n)
def c(a b:E):E:=.cons a b
def c1(a:E):E:=.cons a .nil
def c2(a b:E):E:=.cons a (.cons b .nil)
def c3(a b c:E):E:=.cons a (.cons b (.cons c .nil))
def n1(o:LOp)(a:E):E:=.node o (.cons a .nil)
def n2(o:LOp)(a b:E):E:=.node o (.cons a (.cons b .nil))
def b(o:BinOp)(a b:E):E:=.node (.bin o) (.cons a (.cons b .nil))
def ld(a:E):E:=.node (.ld 1 false) (.cons a .nil)
def fa(n:Nat)(a:E):E:=.node (.fAddr n) (.cons a .nil)
def ix(n:Nat)(a:E):E:=.node (.ext n) (.cons a .nil)
def p(a b c:E):E:=.pick a b c
def h(d:Nat)(o:HOp)(a:E):Stm:=.hv [] [] [] (some d) o a
def cl(d f:Nat)(a:E):Stm:=.hv [] [] [] (some d) (.call false) (.cons (.cst (.func (.func f) #[] #[])) a)
def s(l:List (Nat×E)):Stm:=.sets l []
def q(a b:Stm):Stm:=.seq a b
end K
set_option linter.defProp false in
def kB:=And.intro @K.x.eq_1 (And.intro @K.i.eq_1 (And.intro @K.c.eq_1 (And.intro @K.c1.eq_1 (And.intro @K.c2.eq_1 (And.intro @K.c3.eq_1 (And.intro @K.n1.eq_1 (And.intro @K.n2.eq_1 (And.intro @K.b.eq_1 (And.intro @K.ld.eq_1 (And.intro @K.fa.eq_1 (And.intro @K.ix.eq_1 (And.intro @K.p.eq_1 (And.intro @K.h.eq_1 (And.intro @K.cl.eq_1 (And.intro @K.s.eq_1 @K.q.eq_1)))))))))))))))
section
open K
def bd4:Stm:=
 q (q (h 2 .box (c1 (x 1))) (s [(3,.cst (.bool false))])) (q (.cond (b .gtr (n1 .len (x 0)) (i 900)) (q (q (cl 10 12 .nil) (s [(3,x 10)])) .ret) .skip) (q (q
 (cl 11 16 (c2 (x 0) (n1 (.ld 7 true) (x 2)))) (s [(6,ix 2 (x 11)),(5,ix 1 (x 11)),(4,ix 0 (x 11))])) (q (q (cl 12 17 (c2 (x 0) (n1 (.ld 7 true) (x 2))))
 (s [(9,ix 2 (x 12)),(8,ix 1 (x 12)),(7,ix 0 (x 12))])) (q (q (.hv [(13,p (b .eql (x 6) (x 9)) (b .eql (x 5) (x 8)) (.cst (.bool false)))] [] [(p (b .eql
 (x 6) (x 9)) (b .eql (x 5) (x 8)) (.cst (.bool false)),true)] (some 14) (.call false) (c3 (.cst (.func (.func 15) #[] #[])) (x 4) (x 7))) (q (.hv [(15,p (x
 13) (x 14) (.cst (.bool false)))] [] [(p (x 13) (x 14) (.cst (.bool false)),true)] (some 16) (.call false) (c1 (.cst (.func (.func 12) #[] #[])))) (s [(3,p
 (x 15) (x 16) (.cst (.bool false)))]))) .ret))))
def cf4:CF:=⟨2,17,[(.var 3)],bd4,.plain⟩
def tr4:List Nat:=[0,1,3,4,5,6,7,8,9,10,14,18,25,37,40,42,43]
def K1:Stm:=
 q (s [(0,.cst (.bool false))]) (q (q (.hv [(14,.node (.build [.int .i64 0,.int .i64 0,.int .i64 0,.int .i64 0,.int .i64 0,.int .i64 0,.int .i64 0] [(0,
 1),(1,1),(2,1),(3,1),(4,1),(5,1),(6,1)]) (c (i 10) (c (i 10) (c (i 8) (c (i 8) (c3 (i 3) (i 5) (i 1)))))))] [] [] (some 1) (.alloc [.int .i64 0,
 .int .i64 0,.int .i64 0,.int .i64 0,.int .i64 0,.int .i64 0,.int .i64 0]) .nil) (.hv [] [] [] none (.st 7) (c2 (x 1) (x 14)))) (q (q (h 15 (.bSl [.int
 .i64 0] 3 [0,1,2]) (c3 (i 142) (i 164) (i 186))) (q (cl 16 13 (c2 (x 15) (n1 (.ld 7 true) (x 1)))) (s [(3,ix 1 (x 16)),(2,ix 0 (x 16))]))) (q (q (.hv
 [(18,p (b .neq (x 3) (i 0)) (.cst (.tuple #[])) (x 2)),(17,b .neq (x 3) (i 0))] [] [(b .neq (x 3) (i 0),false)] (some 19) (.bSl [.int .i64 0] 8 [0,1,2,
 3,4,5,6,7]) (c (i 142) (c (i 164) (c (i 186) (c (i 114) (c (i 25) (c3 (i 5) (i 88) (i 102)))))))) (q (.hv [] [] [(x 17,false)] (some 20) (.call false)
 (c3 (.cst (.func (.func 15) #[] #[])) (x 18) (x 19))) (.cond (p (x 17) (.cst (.bool true)) (n1 (.un .not) (x 20))) (q (s [(0,.cst (.bool false))]) .ret)
 .skip))) (q (.hv [] [] [] none (.st 1) (c2 (n2 (.iAddr 1) (x 2) (i 1)) (i 0))) (q (.hv [] [] [] none (.st 1) (c2 (n2 (.iAddr 1) (x 2) (i 7)) (i 0))) (q (q (cl
 21 16 (c2 (x 2) (n1 (.ld 7 true) (x 1)))) (s [(6,ix 2 (x 21)),(5,ix 1 (x 21)),(4,ix 0 (x 21))])) (q (q (h 22 (.bSl [.int .u8 0] 6 [0,1,2,3,4,5]) (c
 (.cst (.int .u8 49)) (c (.cst (.int .u8 50)) (c (.cst (.int .u8 51)) (c3 (.cst (.int .u8 52)) (.cst (.int .u8 53)) (.cst (.int .u8 54))))))) (q (h 23 .frz (c1
 (x 22))) (q (cl 24 18 (c2 (x 23) (.cst (.bool true)))) (q (.hv [(26,ix 1 (x 24)),(25,ix 0 (x 24))] [] [] (some 7) (.alloc [.int .i64 0,.int .i64 0,.slice
 none 0 0]) .nil) (q (.hv [] [] [] none (.st 3) (c2 (x 7) (x 25))) (s [(8,x 26)])))))) (q (q (cl 27 21 (c1 (n1 (.ld 3 true) (x 7)))) (s [(11,ix 2 (x 27)),
 (10,ix 1 (x 27)),(9,ix 0 (x 27))])) (q (q (cl 28 18 (c2 (.cst (.slice none 0 0)) (.cst (.bool false)))) (q (.hv [(30,ix 1 (x 28)),(29,ix 0 (x 28))] []
 [] (some 12) (.alloc [.int .i64 0,.int .i64 0,.slice none 0 0]) .nil) (q (.hv [] [] [] none (.st 3) (c2 (x 12) (x 29))) (s [(13,x 30)])))) (q (q (.hv [(32,
 p (p (b .eql (x 6) (i 0)) (b .eql (x 5) (i 2)) (.cst (.bool false))) (x 4) (.cst (.tuple #[]))),(31,p (b .eql (x 6) (i 0)) (b .eql (x 5) (i 2)) (.cst (.bool
 false)))] [] [(p (b .eql (x 6) (i 0)) (b .eql (x 5) (i 2)) (.cst (.bool false)),true)] (some 33) (.bSl [.int .i64 0] 3 [0,1,2]) (c3 (i 142) (i 164) (i
 186))) (q (.hv [] [] [(x 31,true)] (some 34) (.call false) (c3 (.cst (.func (.func 15) #[] #[])) (x 32) (x 33))) (s [(0,p (p (p (p (p (p (p (p (p (p (x 31)
 (x 34) (.cst (.bool false))) (b .eql (x 8) (i 0)) (.cst (.bool false))) (b .eql (ld (fa 0 (x 7))) (i 10)) (.cst (.bool false))) (b .eql (ld (fa 1 (x 7))) (i
 10)) (.cst (.bool false))) (b .eql (x 11) (i 0)) (.cst (.bool false))) (b .eql (x 10) (i 0)) (.cst (.bool false))) (b .eql (n1 .b2s (x 9)) (.cst (.string ⟨
 #[49,50,51,52,53,54] ⟩))) (.cst (.bool false))) (b .eql (x 13) (i 0)) (.cst (.bool false))) (b .eql (ld (fa 0 (x 12))) (i 10)) (.cst (.bool false))) (b
 .eql (ld (fa 1 (x 12))) (i 10)) (.cst (.bool false)))]))) .ret))))))))))
def Ge:CF:=⟨0,35,[(.var 0)],K1,.plain⟩
def Sc:List Nat:=[0,1,2,3,4,5,6,7,8,9,10,11,12,13,14,16,18,23,24,25,26,36,41,42,43,44,45,48,53,54,55,62,63,64,65]
def KS:Stm:=
 q (q (h 2 .box (c1 (x 1))) (s [(4,i 0),(3,.cst (.slice none 0 0))])) (q (q (q (cl 14 27 (c3 (x 0) (n1 (.ld 7 true) (x 2)) (ld (fa 4 (x 2))))) (s [(5,x
 14)])) (.cond (b .neq (x 5) (i 0)) (q (s [(4,x 5),(3,.cst (.slice none 0 0))]) .ret) .skip)) (q (q (cl 15 28 (c1 (n1 (.ld 7 true) (x 2)))) (q (.hv [(17,ix
 1 (x 15)),(16,ix 0 (x 15))] [] [] (some 6) (.alloc [.int .i64 0,.int .i64 0,.int .i64 0,.int .i64 0,.int .i64 0]) .nil) (q (.hv [] [] [] none (.st 5)
 (c2 (x 6) (x 16))) (s [(7,x 17)])))) (q (.cond (b .neq (x 7) (i 0)) (q (s [(4,x 7),(3,.cst (.slice none 0 0))]) .ret) .skip) (q (q (h 18 (.mkSl [.int .i64
 0]) (c2 (b .add (ld (fa 4 (x 2))) (ld (fa 5 (x 2)))) (b .add (ld (fa 4 (x 2))) (ld (fa 5 (x 2)))))) (s [(8,x 18)])) (q (q (s [(20,i 0),(19,ld (fa 6 (x
 2)))]) (.block 0 (.loop (q (.cond (b .lss (x 20) (x 19)) .skip (.exit 0)) (q (.block 1 (q (s [(9,x 20)]) (q (q (.hv [(21,n1 (.ld 5 true) (x 6))] [] [] (some
 22) (.call true) (c (.cst (.func (.func 30) #[] #[])) (c3 (x 0) (ld (fa 6 (x 2))) (x 9)))) (q (h 23 .callC (c3 (.cst (.func (.func 29) #[] #[])) (x 21) (x
 22))) (s [(11,ix 1 (x 23)),(10,ix 0 (x 23))]))) (q (.cond (b .neq (x 11) (i 0)) (q (s [(4,x 11),(3,.cst (.slice none 0 0))]) .ret) .skip) (q (s [(26,i
 0),(25,n1 .len (x 10)),(24,x 10)]) (.block 2 (.loop (q (.cond (b .lss (x 26) (x 25)) .skip (.exit 2)) (q (.block 3 (q (s [(13,ld (n2 (.iAddr 1) (x 24) (x
 26))),(12,x 26)]) (.hv [] [] [] none (.st 1) (c2 (n2 (.iAddr 1) (x 8) (b .add (x 9) (b .mul (x 12) (ld (fa 6 (x 2)))))) (x 13))))) (s [(26,b .add (x 26) (i
 1))])))))))))) (s [(20,b .add (x 20) (i 1))])))))) (q (s [(4,i 0),(3,x 8)]) .ret))))))
def F8:CF:=⟨2,27,[(.var 3),(.var 4)],KS,.plain⟩
def VB:List Nat:=[0,1,3,4,5,6,7,8,9,10,11,12,13,14,19,25,26,27,36,38,39,43,48,49,55,56,57]
def KU:Stm:=
 q (s [(2,.cst (.bool false))]) (q (.cond (b .neq (n1 .len (x 0)) (n1 .len (x 1))) (q (s [(2,.cst (.bool false))]) .ret) .skip) (q (q (s [(3,i 0)]) (.block 0
 (.loop (q (.cond (b .lss (x 3) (n1 .len (x 0))) .skip (.exit 0)) (q (.block 1 (.cond (b .neq (ld (n2 (.iAddr 1) (x 0) (x 3))) (ld (n2 (.iAddr 1) (x 1) (x
 3)))) (q (s [(2,.cst (.bool false))]) .ret) .skip)) (s [(3,b .add (x 3) (i 1))])))))) (q (s [(2,.cst (.bool true))]) .ret)))
def Dm:CF:=⟨2,4,[(.var 2)],KU,.plain⟩
def VH:List Nat:=[0,1,4,5]
def Lb:Stm:=
 q (q (h 2 .box (c1 (x 1))) (s [(5,i 0),(4,i 0),(3,.cst (.slice none 0 0))])) (.scope (q (q (q (cl 17 27 (c3 (x 0) (n1 (.ld 7 true) (x 2)) (b .add (ld (fa 4
 (x 2))) (ld (fa 5 (x 2)))))) (s [(6,x 17)])) (.cond (b .neq (x 6) (i 0)) (q (s [(5,x 6),(4,i 0),(3,.cst (.slice none 0 0))]) .ret) .skip)) (q (q (cl 18
 28 (c1 (n1 (.ld 7 true) (x 2)))) (q (.hv [(20,ix 1 (x 18)),(19,ix 0 (x 18))] [] [] (some 7) (.alloc [.int .i64 0,.int .i64 0,.int .i64 0,.int .i64 0,
 .int .i64 0]) .nil) (q (.hv [] [] [] none (.st 5) (c2 (x 7) (x 19))) (s [(8,x 20)])))) (q (.cond (b .neq (x 8) (i 0)) (q (s [(5,x 8),(4,i 0),(3,.cst
 (.slice none 0 0))]) .ret) .skip) (q (q (h 21 (.mkSl [.int .i64 0]) (c2 (ld (fa 4 (x 2))) (ld (fa 4 (x 2))))) (s [(9,x 21)])) (q (s [(10,i 0)]) (q .skip (q
 (q (s [(23,i 0),(22,ld (fa 6 (x 2)))]) (.block 0 (.loop (q (.cond (b .lss (x 23) (x 22)) .skip (.exit 0)) (q (.block 1 (q (s [(11,x 23)]) (q (q (.hv [(24,
 n1 (.ld 5 true) (x 7))] [] [] (some 25) (.call true) (c (.cst (.func (.func 30) #[] #[])) (c3 (x 0) (ld (fa 6 (x 2))) (x 11)))) (q (h 26 .callC (c (.cst
 (.func (.func 36) #[] #[])) (c3 (x 24) (x 25) (.cst (.slice none 0 0))))) (q (.hv [(28,ix 1 (x 26)),(27,ix 0 (x 26))] [] [] (some 12) (.alloc [.slice none
 0 0,.slice none 0 0]) .nil) (q (.hv [] [] [] none (.st 2) (c2 (x 12) (x 27))) (s [(13,x 28)]))))) (q (.cond (b .neq (x 13) (i 0)) (q (s [(5,i 17),(4,i
 0),(3,.cst (.slice none 0 0))]) .ret) .skip) (q (s [(10,b .add (x 10) (n1 .len (ld (fa 1 (x 12)))))]) (q (s [(31,i 0),(30,n1 .len (ld (fa 0 (x 12)))),
 (29,ld (fa 0 (x 12)))]) (.block 2 (.loop (q (.cond (b .lss (x 31) (x 30)) .skip (.exit 2)) (q (.block 3 (q (s [(15,ld (n2 (.iAddr 1) (x 29) (x 31))),(14,x
 31)]) (q (s [(16,b .add (x 11) (b .mul (x 14) (ld (fa 6 (x 2)))))]) (q (.cond (b .geq (x 16) (ld (fa 4 (x 2)))) (.exit 1) .skip) (.hv [] [] [] none (.st 1)
 (c2 (n2 (.iAddr 1) (x 9) (x 16)) (x 15))))))) (s [(31,b .add (x 31) (i 1))]))))))))))) (s [(23,b .add (x 23) (i 1))])))))) (q (s [(5,i 0),(4,x 10),(3,x
 9)]) .ret)))))))) (.alt 0 (q .skip (q (q (s [(23,i 0),(22,ld (fa 6 (x 2)))]) (.block 0 (.loop (q (.cond (b .lss (x 23) (x 22)) .skip (.exit 0)) (q (.block
 1 (q (s [(11,x 23)]) (q (q (.hv [(24,n1 (.ld 5 true) (x 7))] [] [] (some 25) (.call true) (c (.cst (.func (.func 30) #[] #[])) (c3 (x 0) (ld (fa 6 (x 2)))
 (x 11)))) (q (h 26 .callC (c (.cst (.func (.func 36) #[] #[])) (c3 (x 24) (x 25) (.cst (.slice none 0 0))))) (q (.hv [(28,ix 1 (x 26)),(27,ix 0 (x 26))] []
 [] (some 12) (.alloc [.slice none 0 0,.slice none 0 0]) .nil) (q (.hv [] [] [] none (.st 2) (c2 (x 12) (x 27))) (s [(13,x 28)]))))) (q (.cond (b .neq (x 13)
 (i 0)) (q (s [(5,i 17),(4,i 0),(3,.cst (.slice none 0 0))]) .ret) .skip) (q (s [(10,b .add (x 10) (n1 .len (ld (fa 1 (x 12)))))]) (q (s [(31,i 0),(30,
 n1 .len (ld (fa 0 (x 12)))),(29,ld (fa 0 (x 12)))]) (.block 2 (.loop (q (.cond (b .lss (x 31) (x 30)) .skip (.exit 2)) (q (.block 3 (q (s [(15,ld (n2
 (.iAddr 1) (x 29) (x 31))),(14,x 31)]) (q (s [(16,b .add (x 11) (b .mul (x 14) (ld (fa 6 (x 2)))))]) (q (.cond (b .geq (x 16) (ld (fa 4 (x 2)))) (.exit 1)
 .skip) (.hv [] [] [] none (.st 1) (c2 (n2 (.iAddr 1) (x 9) (x 16)) (x 15))))))) (s [(31,b .add (x 31) (i 1))]))))))))))) (s [(23,b .add (x 23) (i 1))]))))))
 (q (s [(5,i 0),(4,x 10),(3,x 9)]) .ret))) (.cond .nil .skip .skip)))
def GH:CF:=⟨2,32,[(.var 3),(.var 4),(.var 5)],Lb,.plain⟩
def SZ:List Nat:=[0,1,3,4,5,6,7,8,9,10,11,12,13,14,15,16,17,25,31,32,33,39,41,42,46,51,52,53,54,63,64,65]
def Lv:Stm:=
 q (q (h 2 .box (c1 (x 1))) (s [(5,i 0),(4,i 0),(3,.cst (.slice none 0 0))])) (q (q (cl 12 31 (c1 (n1 (.ld 7 true) (x 2)))) (.cond (n1 (.un .not) (x 12)) (q
 (s [(5,i 14),(4,i 0),(3,.cst (.slice none 0 0))]) .ret) .skip)) (q (.cond (b .neq (n1 .len (x 0)) (b .add (ld (fa 4 (x 2))) (ld (fa 5 (x 2))))) (q (s
 [(5,i 7),(4,i 0),(3,.cst (.slice none 0 0))]) .ret) .skip) (q (q (cl 13 32 (c1 (x 0))) (.cond (n1 (.un .not) (x 13)) (q (s [(5,i 3),(4,i 0),(3,.cst
 (.slice none 0 0))]) .ret) .skip)) (q (s [(6,.cst (.slice none 0 0))]) (q (q (h 14 (.app 1 [.int .i64 0]) (c2 (x 6) (n2 (.sl 1 false true false) (x 0) (ld
 (fa 4 (x 2)))))) (s [(6,x 14)])) (q (s [(7,i 0)]) (q (q (s [(8,i 0)]) (.block 0 (.loop (q (.cond (b .lss (x 8) (ld (fa 6 (x 2)))) .skip (.exit 0)) (q
 (.block 1 (q (q (.hv [(18,ld (fa 6 (x 2))),(17,x 8),(16,x 0)] [] [] (some 15) (.call true) (c2 (.cst (.func (.func 34) #[] #[])) (n1 (.ld 7 true) (x
 2)))) (q (h 19 .callC (c (.cst (.func (.func 35) #[] #[])) (c3 (x 16) (x 17) (x 18)))) (q (h 20 .callC (c (.cst (.func (.func 37) #[] #[])) (c3 (x 15) (x 19)
 (.cst (.slice none 0 0))))) (q (.hv [(22,ix 1 (x 20)),(21,ix 0 (x 20))] [] [] (some 9) (.alloc [.slice none 0 0,.slice none 0 0]) .nil) (q (.hv [] [] []
 none (.st 2) (c2 (x 9) (x 21))) (s [(10,x 22)])))))) (q (.cond (b .neq (x 10) (i 0)) (q (s [(5,i 17),(4,i 0),(3,.cst (.slice none 0 0))]) .ret) .skip)
 (q (s [(7,b .add (x 7) (n1 .len (ld (fa 1 (x 9)))))]) (q (s [(11,i 0)]) (.block 2 (.loop (q (.cond (b .lss (b .add (x 8) (b .mul (x 11) (ld (fa 6 (x 2)))))
 (ld (fa 4 (x 2)))) .skip (.exit 2)) (q (.block 3 (.hv [] [] [] none (.st 1) (c2 (n2 (.iAddr 1) (x 6) (b .add (x 8) (b .mul (x 11) (ld (fa 6 (x 2)))))) (ld (n2
 (.iAddr 1) (ld (fa 0 (x 9))) (x 11)))))) (s [(11,b .add (x 11) (i 1))])))))))))) (s [(8,b .add (x 8) (i 1))])))))) (q (s [(5,i 0),(4,x 7),(3,x 6)])
 .ret))))))))
def E3:CF:=⟨2,23,[(.var 3),(.var 4),(.var 5)],Lv,.plain⟩
def V4:List Nat:=[0,1,3,4,5,6,7,8,9,10,11,12,14,25,32,41,42,43,45,46,47,48,49]
def Kn:Stm:=
 q (q (h 2 (.alloc [.int .i64 0,.int .i64 0,.slice none 0 0]) .nil) (s [(3,i 0)])) (q (q (cl 9 38 (c1 (x 0))) (s [(5,ix 1 (x 9)),(4,ix 0 (x 9))])) (q
 (.cond (b .neq (x 5) (i 0)) (q (q (.hv [(10,x 5)] [] [] none (.st 3) (c2 (x 2) (.node (.build [.int .i64 0,.int .i64 0,.slice none 0 0] []) .nil))) (s [(3,
 x 10)])) .ret) .skip) (q (q (cl 11 39 (c2 (n2 (.minmax true) (n1 .len (x 4)) (i 1)) (x 1))) (q (.hv [(13,ix 1 (x 11)),(12,ix 0 (x 11))] [] [] (some 6)
 (.alloc [.int .i64 0,.int .i64 0,.int .i64 0,.int .i64 0,.int .i64 0,.int .i64 0,.int .i64 0]) .nil) (q (.hv [] [] [] none (.st 7) (c2 (x 6) (x 12))) (s
 [(5,x 13)])))) (q (.cond (b .neq (x 5) (i 0)) (q (q (.hv [(14,x 5)] [] [] none (.st 3) (c2 (x 2) (.node (.build [.int .i64 0,.int .i64 0,.slice none 0 0]
 []) .nil))) (s [(3,x 14)])) .ret) .skip) (q (q (cl 15 40 (c2 (x 4) (ld (fa 4 (x 6))))) (s [(5,ix 1 (x 15)),(7,ix 0 (x 15))])) (q (.cond (b .neq (x 5) (i
 0)) (q (q (.hv [(16,x 5)] [] [] none (.st 3) (c2 (x 2) (.node (.build [.int .i64 0,.int .i64 0,.slice none 0 0] []) .nil))) (s [(3,x 16)])) .ret) .skip)
 (q (q (cl 17 13 (c2 (x 7) (n1 (.ld 7 true) (x 6)))) (s [(5,ix 1 (x 17)),(8,ix 0 (x 17))])) (q (.cond (b .neq (x 5) (i 0)) (q (q (.hv [(18,x 5)] [] [] none
 (.st 3) (c2 (x 2) (.node (.build [.int .i64 0,.int .i64 0,.slice none 0 0] []) .nil))) (s [(3,x 18)])) .ret) .skip) (q (q (cl 19 41 (c2 (x 8) (n1 (.ld 7
 true) (x 6)))) (q (.hv [(20,ix 1 (x 19))] [] [] none (.st 3) (c2 (x 2) (ix 0 (x 19)))) (s [(3,x 20)]))) .ret)))))))))
def Dp:CF:=⟨2,21,[(.node (.ld 3 true) (.cons (.var 2) .nil)),(.var 3)],Kn,.plain⟩
def Tj:List Nat:=[0,1,4,5,6,7,8,9,10,13,19,25,26,27,31,36,42,46,52,55,57]
def Li:Stm:=
 q (q (h 1 .box (c1 (x 0))) (s [(4,i 0),(3,i 0),(2,.cst (.slice none 0 0))])) (q (q (cl 11 45 (c1 (n1 (.ld 3 true) (x 1)))) (q (.hv [(14,ix 2 (x 11)),(13,
 ix 1 (x 11)),(12,ix 0 (x 11))] [] [] (some 6) (.alloc [.int .i64 0,.int .i64 0,.int .i64 0,.int .i64 0,.int .i64 0,.int .i64 0,.int .i64 0]) .nil) (q
 (.hv [(5,x 12)] [] [] none (.st 7) (c2 (x 6) (x 13))) (s [(7,x 14)])))) (q (.cond (b .neq (x 7) (i 0)) (q (s [(4,x 7),(3,i 0),(2,.cst (.slice none 0
 0))]) .ret) .skip) (q (q (cl 15 16 (c2 (x 5) (n1 (.ld 7 true) (x 6)))) (s [(7,ix 2 (x 15)),(9,ix 1 (x 15)),(8,ix 0 (x 15))])) (q (.cond (b .neq (x 7) (i
 0)) (q (s [(4,x 7),(3,i 0),(2,.cst (.slice none 0 0))]) .ret) .skip) (q (q (cl 16 46 (c1 (x 8))) (s [(7,ix 1 (x 16)),(10,ix 0 (x 16))])) (q (.cond (b
 .neq (x 7) (i 0)) (q (s [(4,x 7),(3,i 0),(2,.cst (.slice none 0 0))]) .ret) .skip) (q (s [(4,i 0),(3,x 9),(2,x 10)]) .ret)))))))
def DZ:CF:=⟨1,17,[(.var 2),(.var 3),(.var 4)],Li,.plain⟩
def VQ:List Nat:=[0,1,2,3,4,5,6,7,8,9,10,13,14,15,16,23,32]
def QY:List Nat:=[0,1,2,3,34,41,46,47,48]
def Kw:Stm:=
 q (q (h 3 .box (c1 (x 1))) (s [(4,i 0)])) (q (q (.hv [(7,n1 (.ld 7 true) (x 3))] [] [] (some 6) (.call true) (c1 (.cst (.func (.func 55) #[] #[])))) (q (h 8
 .callC (c3 (.cst (.func (.func 54) #[] #[])) (x 6) (x 7))) (.cond (n1 (.un .not) (x 8)) (q (s [(4,i 14)]) .ret) .skip))) (q (.cond (b .neq (n1 .len (x 0)) (x
 2)) (q (s [(4,i 7)]) .ret) .skip) (q (q (s [(11,i 0),(10,n1 .len (x 0)),(9,x 0)]) (.block 0 (.loop (q (.cond (b .lss (x 11) (x 10)) .skip (.exit 0)) (q
 (.block 1 (q (s [(5,ld (n2 (.iAddr 1) (x 9) (x 11)))]) (.cond (p (b .lss (x 5) (i 0)) (.cst (.bool true)) (b .gtr (x 5) (i 255))) (q (s [(4,i 3)]) .ret)
 .skip))) (s [(11,b .add (x 11) (i 1))])))))) (q (s [(4,i 0)]) .ret))))
def CC:CF:=⟨3,12,[(.var 4)],Kw,.plain⟩
def Tf:List Nat:=[0,1,2,4,6,8,9,10,11,17,18,19]
def LH:Stm:=
 q (q (h 1 .box (c1 (x 0))) (q (h 2 (.alloc [.int .i64 0,.int .i64 0,.int .i64 0,.int .i64 0,.int .i64 0]) .nil) (s [(3,i 0)]))) (q (q (cl 6 56 (c2 (i 8) (i
 301))) (q (.hv [(8,ix 1 (x 6)),(7,ix 0 (x 6))] [] [] (some 4) (.alloc [.int .i64 0,.int .i64 0,.int .i64 0]) .nil) (q (.hv [] [] [] none (.st 3) (c2 (x
 4) (x 7))) (s [(5,x 8)])))) (q (.cond (b .neq (x 5) (i 0)) (q (q (.hv [(9,x 5)] [] [] none (.st 5) (c2 (x 2) (.node (.build [.int .i64 0,.int .i64 0,.int
 .i64 0,.int .i64 0,.int .i64 0] []) .nil))) (s [(3,x 9)])) .ret) .skip) (q (q (h 10 .callC (c (.cst (.func (.func 57) #[] #[])) (c3 (n1 (.ld 3 true) (x 4))
 (b .quo (ld (fa 5 (x 1))) (ld (fa 6 (x 1)))) (i 1)))) (q (.hv [(11,ix 1 (x 10))] [] [] none (.st 5) (c2 (x 2) (ix 0 (x 10)))) (s [(3,x 11)]))) .ret)))
def Em:CF:=⟨1,12,[(.node (.ld 5 true) (.cons (.var 2) .nil)),(.var 3)],LH,.plain⟩
def U3:List Nat:=[0,1,2,3,4,5,7,8,9,13,20,22]
def MA:Stm:=
 q (q (h 2 .box (c1 (x 0))) (s [(4,i 0),(3,.cst (.slice none 0 0))])) (q (q (cl 15 58 (c2 (n1 (.ld 5 true) (x 2)) (x 1))) (.cond (n1 (.un .not) (x 15)) (q (s
 [(4,i 1),(3,.cst (.slice none 0 0))]) .ret) .skip)) (q (q (.hv [(16,b .eql (n1 .len (x 1)) (i 0))] [] [(b .eql (n1 .len (x 1)) (i 0),false)] (some 17)
 (.call false) (c3 (.cst (.func (.func 59) #[] #[])) (n1 (.ld 5 true) (x 2)) (b .add (n1 .len (x 1)) (ld (fa 3 (x 2)))))) (.cond (p (x 16) (.cst (.bool true))
 (n1 (.un .not) (x 17))) (q (s [(4,i 7),(3,.cst (.slice none 0 0))]) .ret) .skip)) (q (q (cl 18 60 (c1 (n1 (.ld 5 true) (x 2)))) (s [(6,ix 1 (x 18)),(5,
 ix 0 (x 18))])) (q (.cond (b .neq (x 6) (i 0)) (q (s [(4,x 6),(3,.cst (.slice none 0 0))]) .ret) .skip) (q (s [(7,b .add (n1 .len (x 1)) (ld (fa 3 (x
 2))))]) (q (q (h 19 (.mkSl [.int .i64 0]) (c2 (x 7) (x 7))) (s [(8,x 19)])) (q (q (s [(22,i 0),(21,n1 .len (x 1)),(20,x 1)]) (.block 0 (.loop (q (.cond
 (b .lss (x 22) (x 21)) .skip (.exit 0)) (q (.block 1 (q (s [(10,ld (n2 (.iAddr 1) (x 20) (x 22))),(9,x 22)]) (.hv [] [] [] none (.st 1) (c2 (n2 (.iAddr 1)
 (x 8) (b .sub (b .sub (x 7) (i 1)) (x 9))) (x 10))))) (s [(22,b .add (x 22) (i 1))])))))) (q (q (.hv [(25,x 5),(23,n1 (.ld 3 true) (fa 0 (x 2)))] [] []
 (some 24) (.call true) (c2 (.cst (.func (.func 62) #[] #[])) (x 8))) (q (h 26 .callC (c (.cst (.func (.func 61) #[] #[])) (c3 (x 23) (x 24) (x 25)))) (.sets
 [(6,ix 2 (x 26)),(11,ix 1 (x 26))] [ix 0 (x 26)]))) (q (.cond (b .neq (x 6) (i 0)) (q (s [(4,x 6),(3,.cst (.slice none 0 0))]) .ret) .skip) (q (q (h 27
 (.mkSl [.int .i64 0]) (c2 (x 7) (x 7))) (s [(12,x 27)])) (q (.hv [] [] [] none (.cpy 1) (c2 (x 12) (x 1))) (q (q (s [(30,i 0),(29,n1 .len (x 11)),(28,x
 11)]) (.block 2 (.loop (q (.cond (b .lss (x 30) (x 29)) .skip (.exit 2)) (q (.block 3 (q (s [(14,ld (n2 (.iAddr 1) (x 28) (x 30))),(13,x 30)]) (q (q (.hv
 [(32,b .sub (b .sub (x 7) (i 1)) (x 13)),(31,x 12)] [] [] (some 33) (.call false) (c (.cst (.func (.func 63) #[] #[])) (c3 (n1 (.ld 3 true) (fa 0 (x 2)))
 (i 0) (x 14)))) (q (.hv [(34,ix 1 (x 33))] [] [] none (.st 1) (c2 (n2 (.iAddr 1) (x 31) (x 32)) (ix 0 (x 33)))) (s [(6,x 34)]))) (.cond (b .neq (x 6) (i 0))
 (q (s [(4,x 6),(3,.cst (.slice none 0 0))]) .ret) .skip)))) (s [(30,b .add (x 30) (i 1))])))))) (q (s [(4,i 0),(3,x 12)]) .ret)))))))))))))
def Gd:CF:=⟨2,35,[(.var 3),(.var 4)],MA,.plain⟩
def TJ:List Nat:=[0,1,2,4,5,6,7,8,9,10,11,13,14,15,16,19,24,31,36,48,49,50,51,66,68,69,70,78,82,83,84,90,94,98,100]
def L4:Stm:=
 q (s [(3,.cst (.slice none 0 0))]) (q (s [(4,.cst (.slice none 0 0))]) (q (q (s [(5,x 2)]) (.block 0 (.loop (q (.cond (b .lss (x 5) (n1 .len (x 0))) .skip
 (.exit 0)) (q (.block 1 (q (.hv [(6,x 4)] [] [] (some 7) (.bSl [.int .i64 0] 1 [0]) (c1 (ld (n2 (.iAddr 1) (x 0) (x 5))))) (q (h 8 (.app 1 [.int .i64 0]) (c2
 (x 6) (x 7))) (s [(4,x 8)])))) (s [(5,b .add (x 5) (x 1))])))))) (q (s [(3,x 4)]) .ret)))
def GJ:CF:=⟨3,9,[(.var 3)],L4,.plain⟩
def TH:List Nat:=[0,1,2,6,7,8,17,22,23]
def MH:Stm:=
 q (q (h 1 .box (c1 (x 0))) (s [(2,.cst (.bool false))])) (q (q (cl 5 26 .nil) (s [(3,x 5)])) (q (q (s [(4,i 0)]) (.block 0 (.loop (q (.cond (b .lss (x 4) (n1
 .len (x 3))) .skip (.exit 0)) (q (.block 1 (.cond (n2 (.eqA false [1,1,1,1,1,1,1]) (n1 (.ld 7 true) (n2 (.iAddr 7) (x 3) (x 4))) (n1 (.ld 7 true) (x
 1))) (q (s [(2,.cst (.bool true))]) .ret) .skip)) (s [(4,b .add (x 4) (i 1))])))))) (q (s [(2,.cst (.bool false))]) .ret)))
def Cz:CF:=⟨1,6,[(.var 2)],MH,.plain⟩
def Tq:List Nat:=[0,1,2,3,4,5]
def Ka:Stm:=
 q (s [(1,.cst (.bool false))]) (q (q (s [(2,i 0)]) (.block 0 (.loop (q (.cond (b .lss (x 2) (n1 .len (x 0))) .skip (.exit 0)) (q (.block 1 (.cond (p (b .lss
 (ld (n2 (.iAddr 1) (x 0) (x 2))) (i 0)) (.cst (.bool true)) (b .gtr (ld (n2 (.iAddr 1) (x 0) (x 2))) (i 255))) (q (s [(1,.cst (.bool false))]) .ret) .skip))
 (s [(2,b .add (x 2) (i 1))])))))) (q (s [(1,.cst (.bool true))]) .ret))
def Dx:CF:=⟨1,3,[(.var 1)],Ka,.plain⟩
def UU:List Nat:=[0,2,3]
def Lc:Stm:=
 q (q (h 1 .box (c1 (x 0))) (h 2 (.alloc [.int .i64 0,.int .i64 0,.int .i64 0,.int .i64 0,.int .i64 0]) .nil)) (q (q (cl 4 70 (c3 (.node (.build [.int .i64
 0,.int .i64 0,.int .i64 0] [(0,1),(1,1),(2,1)]) (c3 (i 2) (i 256) (i 301))) (b .quo (ld (fa 5 (x 1))) (ld (fa 6 (x 1)))) (i 1))) (q (.hv [(6,ix 1 (x
 4)),(5,ix 0 (x 4))] [] [] (some 3) (.alloc [.int .i64 0,.int .i64 0,.int .i64 0,.int .i64 0,.int .i64 0]) .nil) (q (.hv [] [] [] none (.st 5) (c2 (x 3)
 (x 5))) (.sets [] [x 6])))) (q (.hv [] [] [] none (.st 5) (c2 (x 2) (n1 (.ld 5 true) (x 3)))) .ret))
def F6:CF:=⟨1,7,[(.node (.ld 5 true) (.cons (.var 2) .nil))],Lc,.plain⟩
def SQ:List Nat:=[0,1,2,3,12,13,14]
def Kq:Stm:=
 q (s [(3,.cst (.slice none 0 0))]) (q (s [(4,.cst (.slice none 0 0))]) (q (q (s [(5,x 1)]) (.block 0 (.loop (q (.cond (b .lss (x 5) (n1 .len (x 0))) .skip
 (.exit 0)) (q (.block 1 (q (.hv [(6,x 4)] [] [] (some 7) (.bSl [.int .i64 0] 1 [0]) (c1 (ld (n2 (.iAddr 1) (x 0) (x 5))))) (q (h 8 (.app 1 [.int .i64 0]) (c2
 (x 6) (x 7))) (s [(4,x 8)])))) (s [(5,b .add (x 5) (x 2))])))))) (q (s [(3,x 4)]) .ret)))
def G8:CF:=⟨3,9,[(.var 3)],Kq,.plain⟩
def UD:List Nat:=[0,1,2,6,7,8,17,22,23]
def MO:Stm:=
 q (q (h 3 .box (c1 (x 0))) (q (h 4 (.alloc [.slice none 0 0,.slice none 0 0]) .nil) (s [(5,i 0)]))) (q (q (cl 11 58 (c2 (n1 (.ld 5 true) (x 3)) (x 1))) (.cond
 (n1 (.un .not) (x 11)) (q (q (.hv [] [] [] none (.st 2) (c2 (x 4) (.node (.build [.slice none 0 0,.slice none 0 0] []) .nil))) (s [(5,i 1)])) .ret) .skip))
 (q (q (s [(14,i 0),(13,n1 .len (x 2)),(12,x 2)]) (.block 0 (.loop (q (.cond (b .lss (x 14) (x 13)) .skip (.exit 0)) (q (.block 1 (q (s [(6,ld (n2
 (.iAddr 1) (x 12) (x 14)))]) (.cond (p (b .lss (x 6) (i 0)) (.cst (.bool true)) (b .geq (x 6) (n1 .len (x 1)))) (q (q (.hv [] [] [] none (.st 2) (c2 (x 4)
 (.node (.build [.slice none 0 0,.slice none 0 0] []) .nil))) (s [(5,i 1)])) .ret) .skip))) (s [(14,b .add (x 14) (i 1))])))))) (q (q (cl 15 59 (c2 (n1 (.ld
 5 true) (x 3)) (n1 .len (x 1)))) (.cond (n1 (.un .not) (x 15)) (q (q (.hv [] [] [] none (.st 2) (c2 (x 4) (.node (.build [.slice none 0 0,.slice none 0 0]
 []) .nil))) (s [(5,i 7)])) .ret) .skip)) (q (q (.hv [(20,n1 .len (x 1)),(18,x 1),(17,n1 (.ld 5 true) (x 3))] [] [] (some 16) (.call true) (c2 (.cst
 (.func (.func 71) #[] #[])) (n1 (.ld 3 true) (fa 0 (x 3))))) (q (h 19 (.app 1 [.int .i64 0]) (c2 (.cst (.slice none 0 0)) (x 18))) (q (h 21 (.mkSl [.bool
 false]) (c2 (x 20) (x 20))) (q (h 22 .box (c1 (.node (.build [.int .i64 0,.int .i64 0,.slice none 0 0,.slice none 0 0,.int .i64 0,.int .i64 0,.int .i64
 0,.int .i64 0,.int .i64 0,.slice none 0 0,.slice none 0 0,.int .i64 0,.slice none 0 0,.slice none 0 0,.slice none 0 0,.slice none 0 0] [(0,4),(4,
 5),(9,1),(10,1)]) (c (x 16) (c3 (x 17) (x 19) (x 21)))))) (q (s [(7,x 22)]) (.dist (.cst (.slice none 0 0)) (x 3))))))) (q (q (s [(25,i 0),(24,n1 .len
 (x 2)),(23,x 2)]) (.block 2 (.loop (q (.cond (b .lss (x 25) (x 24)) .skip (.exit 2)) (q (.block 3 (q (s [(8,ld (n2 (.iAddr 1) (x 23) (x 25)))]) (.cond (n1
 (.un .not) (ld (n2 (.iAddr 1) (ld (fa 10 (n1 .nilChk (x 7)))) (x 8)))) (q (.hv [] [] [] none (.st 1) (c2 (n2 (.iAddr 1) (ld (fa 10 (n1 .nilChk (x 7)))) (x 8))
 (.cst (.bool true)))) (.hv [] [] [] none (.st 1) (c2 (fa 11 (n1 .nilChk (x 7))) (b .add (ld (fa 11 (n1 .nilChk (x 7)))) (i 1))))) .skip))) (s [(25,b .add (x
 25) (i 1))])))))) (q (q (cl 26 72 (c1 (x 7))) (.cond (n1 (.un .not) (x 26)) (q (q (.hv [] [] [] none (.st 2) (c2 (x 4) (.node (.build [.slice none 0 0,.slice
 none 0 0] []) .nil))) (s [(5,i 17)])) .ret) .skip)) (q (s [(9,.cst (.slice none 0 0))]) (q (q (s [(28,i 0),(27,n1 .len (x 1))]) (.block 4 (.loop (q
 (.cond (b .lss (x 28) (x 27)) .skip (.exit 4)) (q (.block 5 (q (s [(10,x 28)]) (.cond (b .neq (ld (n2 (.iAddr 1) (ld (fa 9 (n1 .nilChk (x 7)))) (x 10))) (ld
 (n2 (.iAddr 1) (x 1) (x 10)))) (q (.hv [(29,x 9)] [] [] (some 30) (.bSl [.int .i64 0] 1 [0]) (c1 (x 10))) (q (h 31 (.app 1 [.int .i64 0]) (c2 (x 29) (x 30)))
 (s [(9,x 31)]))) .skip))) (s [(28,b .add (x 28) (i 1))])))))) (q (q (.hv [] [] [] none (.st 2) (c2 (x 4) (n2 (.build [.slice none 0 0,.slice none 0 0] [(0,
 1),(1,1)]) (ld (fa 9 (n1 .nilChk (x 7)))) (x 9)))) (s [(5,i 0)])) .ret)))))))))
def Gi:CF:=⟨3,32,[(.node (.ld 2 true) (.cons (.var 4) .nil)),(.var 5)],MO,.plain⟩
def Uk:List Nat:=[0,1,2,3,6,7,9,10,12,13,14,17,20,21,22,39,44,45,46,47,49,50,52,53,54,55,82,86,87,102,104,105]
def Le:Stm:=
 q (q (h 3 .box (c1 (x 0))) (q (h 4 (.alloc [.slice none 0 0,.slice none 0 0]) .nil) (s [(5,i 0)]))) (q (q (cl 9 64 (c1 (n1 (.ld 5 true) (x 3)))) (q (.hv [(10,
 n1 (.un .not) (x 9))] [] [(n1 (.un .not) (x 9),false)] (some 11) (.call false) (c3 (.cst (.func (.func 65) #[] #[])) (n1 (.ld 3 true) (fa 0 (x 3))) (x 1)))
 (.cond (p (x 10) (.cst (.bool true)) (n1 (.un .not) (x 11))) (q (q (.hv [] [] [] none (.st 2) (c2 (x 4) (.node (.build [.slice none 0 0,.slice none 0 0] [])
 .nil))) (s [(5,i 1)])) .ret) .skip))) (q (q (s [(6,i 0)]) (.block 0 (.loop (q (.cond (b .lss (x 6) (n1 .len (x 2))) .skip (.exit 0)) (q (.block 1 (.cond (p
 (b .lss (ld (n2 (.iAddr 1) (x 2) (x 6))) (i 0)) (.cst (.bool true)) (b .geq (ld (n2 (.iAddr 1) (x 2) (x 6))) (n1 .len (x 1)))) (q (q (.hv [] [] [] none (.st
 2) (c2 (x 4) (.node (.build [.slice none 0 0,.slice none 0 0] []) .nil))) (s [(5,i 1)])) .ret) .skip)) (s [(6,b .add (x 6) (i 1))])))))) (q (.cond (p (b
 .leq (n1 .len (x 1)) (ld (fa 3 (x 3)))) (.cst (.bool true)) (b .gtr (n1 .len (x 1)) (b .sub (ld (fa 1 (fa 0 (x 3)))) (i 1)))) (q (q (.hv [] [] [] none (.st 2)
 (c2 (x 4) (.node (.build [.slice none 0 0,.slice none 0 0] []) .nil))) (s [(5,i 7)])) .ret) .skip) (q (q (cl 12 73 (c2 (n1 .len (x 1)) (x 2))) (s [(8,ix 1
 (x 12)),(7,ix 0 (x 12))])) (q (.cond (b .gtr (x 8) (ld (fa 3 (x 3)))) (q (q (.hv [] [] [] none (.st 2) (c2 (x 4) (.node (.build [.slice none 0 0,.slice
 none 0 0] []) .nil))) (s [(5,i 17)])) .ret) .skip) (q (q (cl 13 74 (c (n1 (.ld 5 true) (x 3)) (c3 (x 1) (x 7) (x 8)))) (q (.hv [(14,ix 1 (x 13))] [] [] none
 (.st 2) (c2 (x 4) (ix 0 (x 13)))) (s [(5,x 14)]))) .ret))))))
def EU:CF:=⟨3,15,[(.node (.ld 2 true) (.cons (.var 4) .nil)),(.var 5)],Le,.plain⟩
def Uw:List Nat:=[0,1,2,3,6,7,8,9,10,12,14,18,62,74,76]
def R2:List Nat:=[0,2,3,8,9]
def PY:List Nat:=[0,1,4,5,6,8,15,16,17,20]
def Rx:List Nat:=[0,1,4,5,7,8,9,10,11,12,30]
def Nx:List Nat:=[0,1,3,4,5,7,8,9,10,11,12,13,14,15,16,17,29,30,31,45,50,52,54,60,61,64,65,77,109,110,115]
def PD:List Nat:=[0,1,2,3,4,5,6,7,8,9,10,11,12,13,15,18,21,28,30,33,39,41,42,43,57]
def Qt:List Nat:=[0,2,3,5,6,7,8,9,10,11,27,53]
def PA:List Nat:=[0,1,2]
def LU:Stm:=
 q (q (h 2 .box (c1 (x 1))) (s [(3,.cst (.bool false))])) (q (q (cl 4 99 (c2 (x 0) (n1 (.ld 7 true) (x 2)))) (s [(3,b .geq (x 4) (i 0))])) .ret)
def GX:CF:=⟨2,5,[(.var 3)],LU,.plain⟩
def TC:List Nat:=[0,1,3,4,7]
def Qp:List Nat:=[0,1,2,3,4,35,36,37,38,40,41]
def Ks:Stm:=
 q (q (h 2 (.alloc [.int .i64 0,.int .i64 0,.int .i64 0]) .nil) (s [(3,i 0)])) (q (.cond (p (b .lss (x 0) (i 1)) (.cst (.bool true)) (b .gtr (x 0) (i 12))) (q
 (q (.hv [] [] [] none (.st 3) (c2 (x 2) (.node (.build [.int .i64 0,.int .i64 0,.int .i64 0] []) .nil))) (s [(3,i 3)])) .ret) .skip) (q (q (.hv [(5,.node
 (.build [.int .i64 0,.int .i64 0,.int .i64 0] [(0,1),(1,1),(2,1)]) (c3 (i 2) (b .shl (i 1) (x 0)) (x 1)))] [] [] (some 4) (.alloc [.int .i64 0,.int
 .i64 0,.int .i64 0]) .nil) (.hv [] [] [] none (.st 3) (c2 (x 4) (x 5)))) (q (q (cl 6 100 (c1 (n1 (.ld 3 true) (x 4)))) (.cond (n1 (.un .not) (x 6)) (q (q
 (.hv [] [] [] none (.st 3) (c2 (x 2) (.node (.build [.int .i64 0,.int .i64 0,.int .i64 0] []) .nil))) (s [(3,i 38)])) .ret) .skip)) (q (q (.hv [] [] []
 none (.st 3) (c2 (x 2) (n1 (.ld 3 true) (x 4)))) (s [(3,i 0)])) .ret))))
def Gr:CF:=⟨2,7,[(.node (.ld 3 true) (.cons (.var 2) .nil)),(.var 3)],Ks,.plain⟩
def S8:List Nat:=[0,1,4,5,6,17,19]
def M8:Stm:=
 q (q (h 3 .box (c1 (x 0))) (q (h 4 (.alloc [.int .i64 0,.int .i64 0,.int .i64 0,.int .i64 0,.int .i64 0]) .nil) (s [(5,i 0)]))) (q (q (cl 6 100 (c1 (n1
 (.ld 3 true) (x 3)))) (.cond (n1 (.un .not) (x 6)) (q (q (.hv [] [] [] none (.st 5) (c2 (x 4) (.node (.build [.int .i64 0,.int .i64 0,.int .i64 0,.int .i64
 0,.int .i64 0] []) .nil))) (s [(5,i 1)])) .ret) .skip)) (q (q (cl 7 101 (c3 (n1 (.ld 3 true) (x 3)) (x 1) (x 2))) (.cond (n1 (.un .not) (x 7)) (q (q (.hv []
 [] [] none (.st 5) (c2 (x 4) (.node (.build [.int .i64 0,.int .i64 0,.int .i64 0,.int .i64 0,.int .i64 0] []) .nil))) (s [(5,i 3)])) .ret) .skip)) (q (q
 (.hv [] [] [] none (.st 5) (c2 (x 4) (.node (.build [.int .i64 0,.int .i64 0,.int .i64 0,.int .i64 0,.int .i64 0] [(0,3),(3,1),(4,1)]) (c3 (n1 (.ld 3
 true) (x 3)) (x 1) (x 2))))) (s [(5,i 0)])) .ret)))
def Gt:CF:=⟨3,8,[(.node (.ld 5 true) (.cons (.var 4) .nil)),(.var 5)],M8,.plain⟩
def Uy:List Nat:=[0,1,2,3,6,7,9,15]
def Kg:Stm:=
 q (q (h 2 .box (c1 (x 0))) (s [(3,.cst (.bool false))])) (q (q (cl 4 100 (c1 (n1 (.ld 3 true) (fa 0 (x 2))))) (q (.hv [(5,x 4)] [] [(x 4,true)] (some 6)
 (.call false) (c (.cst (.func (.func 101) #[] #[])) (c3 (n1 (.ld 3 true) (fa 0 (x 2))) (ld (fa 3 (x 2))) (ld (fa 4 (x 2)))))) (q (.hv [(7,p (x 5) (x 6) (.cst
 (.bool false)))] [] [(p (x 5) (x 6) (.cst (.bool false)),true)] (some 8) (.call false) (c3 (.cst (.func (.func 102) #[] #[])) (n1 (.ld 3 true) (fa 0 (x 2)))
 (x 1))) (s [(3,p (x 7) (x 8) (.cst (.bool false)))])))) .ret)
def GN:CF:=⟨2,9,[(.var 3)],Kg,.plain⟩
def Tc:List Nat:=[0,1,2,4,7,8,15,17,21]
def LY:Stm:=
 q (q (h 2 .box (c1 (x 0))) (s [(3,.cst (.bool false))])) (q (s [(3,p (b .gtr (x 1) (ld (fa 3 (x 2)))) (b .lss (x 1) (ld (fa 1 (fa 0 (x 2))))) (.cst (.bool
 false)))]) .ret)
def E9:CF:=⟨2,4,[(.var 3)],LY,.plain⟩
def Ta:List Nat:=[0,1,2,4]
def Kv:Stm:=
 q (q (h 1 .box (c1 (x 0))) (s [(3,i 0),(2,.cst (.slice none 0 0))])) (q (q (cl 7 58 (c2 (n1 (.ld 5 true) (x 1)) (.cst (.slice none 0 0)))) (.cond (n1 (.un
 .not) (x 7)) (q (s [(3,i 1),(2,.cst (.slice none 0 0))]) .ret) .skip)) (q (q (cl 8 71 (c1 (n1 (.ld 3 true) (fa 0 (x 1))))) (q (h 4 (.alloc [.int .i64 0,
 .int .i64 0,.slice none 0 0,.slice none 0 0]) .nil) (.hv [] [] [] none (.st 4) (c2 (x 4) (x 8))))) (q (q (h 9 (.mkSl [.int .i64 0]) (c2 (ld (fa 3 (x 1)))
 (ld (fa 3 (x 1))))) (s [(5,x 9)])) (q (q (s [(11,i 0),(10,n1 .len (x 5))]) (.block 0 (.loop (q (.cond (b .lss (x 11) (x 10)) .skip (.exit 0)) (q (.block 1
 (q (s [(6,x 11)]) (q (.hv [(13,x 6),(12,x 5)] [] [] (some 14) (.call false) (c3 (.cst (.func (.func 103) #[] #[])) (n1 (.ld 4 true) (x 4)) (b .add (ld (fa
 4 (x 1))) (x 6)))) (.hv [] [] [] none (.st 1) (c2 (n2 (.iAddr 1) (x 12) (x 13)) (x 14)))))) (s [(11,b .add (x 11) (i 1))])))))) (q (q (cl 15 104 (c2 (n1 (.ld
 3 true) (fa 0 (x 1))) (x 5))) (s [(3,ix 1 (x 15)),(2,ix 0 (x 15))])) .ret)))))
def Cq:CF:=⟨1,16,[(.var 2),(.var 3)],Kv,.plain⟩
def UY:List Nat:=[0,1,2,3,4,5,6,8,12,15,17,18,21,22,28,34]
def Kd:Stm:=
 q (q (h 3 .box (c1 (x 0))) (s [(6,i 0),(5,.cst (.slice none 0 0)),(4,.cst (.slice none 0 0))])) (q (q (.hv [(7,n1 (.ld 3 true) (x 3))] [] [] (some 8)
 (.bSl [.slice none 0 0] 2 [0,1]) (c2 (x 1) (x 2))) (q (cl 9 105 (c2 (x 7) (x 8))) (.cond (n1 (.un .not) (x 9)) (q (s [(6,i 1),(5,.cst (.slice none 0 0)),
 (4,.cst (.slice none 0 0))]) .ret) .skip))) (q (.cond (b .eql (n1 .len (x 2)) (i 0)) (q (s [(6,i 12),(5,.cst (.slice none 0 0)),(4,.cst (.slice none 0
 0))]) .ret) .skip) (q (q (cl 10 106 (c1 (n1 (.ld 3 true) (x 3)))) (q (cl 11 107 (c3 (x 10) (x 1) (x 2))) (s [(5,ix 1 (x 11)),(4,ix 0 (x 11))]))) (q (s [(6,
 i 0),(5,x 5),(4,x 4)]) .ret))))
def E4:CF:=⟨3,12,[(.var 4),(.var 5),(.var 6)],Kd,.plain⟩
def V3:List Nat:=[0,1,2,3,6,7,8,9,12,13,20,23]
def IX:Stm:=
 q (s [(1,.cst (.slice none 0 0))]) (q (s [(2,n1 .len (x 0))]) (q (.block 0 (.loop (q (.cond (p (b .gtr (x 2) (i 0)) (b .eql (ld (n2 (.iAddr 1) (x 0) (b .sub
 (x 2) (i 1)))) (i 0)) (.cst (.bool false))) .skip (.exit 0)) (.block 1 (s [(2,b .sub (x 2) (i 1))]))))) (q (q (h 3 (.app 1 [.int .i64 0]) (c2 (.cst (.slice
 none 0 0)) (n2 (.sl 1 false true false) (x 0) (x 2)))) (s [(1,x 3)])) .ret)))
def BH:CF:=⟨1,4,[(.var 1)],IX,.plain⟩
def TD:List Nat:=[0,2,3,21]
def Ky:Stm:=
 q (q (h 3 .box (c1 (x 0))) (s [(5,i 0),(4,i 0)])) (q (q (.hv [(6,n1 (.ld 3 true) (x 3))] [] [] (some 7) (.bSl [.int .i64 0] 2 [0,1]) (c2 (x 1) (x 2))) (q
 (cl 8 108 (c2 (x 6) (x 7))) (.cond (n1 (.un .not) (x 8)) (q (s [(5,i 1),(4,i 0)]) .ret) .skip))) (q (.cond (b .neq (ld (fa 2 (x 3))) (i 0)) (q (s [(5,i
 0),(4,b .xor (x 1) (x 2))]) .ret) .skip) (q (s [(5,i 0),(4,b .rem (b .add (b .sub (x 1) (x 2)) (ld (fa 1 (x 3)))) (ld (fa 1 (x 3))))]) .ret)))
def D5:CF:=⟨3,9,[(.var 4),(.var 5)],Ky,.plain⟩
def SU:List Nat:=[0,1,2,3,6,7,8,11,12]
def Km:Stm:=
 q (q (h 1 .box (c1 (x 0))) (s [(2,.cst (.bool false))])) (q (s [(3,ld (fa 1 (fa 0 (x 1))))]) (q (q (cl 4 109 (c1 (n1 (.ld 3 true) (fa 0 (x 1))))) (s [(2,p (p
 (p (p (x 4) (b .geq (ld (fa 3 (x 1))) (i 1)) (.cst (.bool false))) (b .leq (ld (fa 3 (x 1))) (b .sub (x 3) (i 2))) (.cst (.bool false))) (b .geq (ld (fa 4 (x
 1))) (i 0)) (.cst (.bool false))) (b .leq (ld (fa 4 (x 1))) (b .sub (x 3) (i 2))) (.cst (.bool false)))])) .ret))
def Cf:CF:=⟨1,5,[(.var 2)],Km,.plain⟩
def VY:List Nat:=[0,1,2,3,9]
def M0:Stm:=
 q (q (h 2 .box (c1 (x 0))) (s [(3,.cst (.bool false))])) (q (q (s [(4,i 0)]) (.block 0 (.loop (q (.cond (b .lss (x 4) (n1 .len (x 1))) .skip (.exit 0)) (q
 (.block 1 (q (h 5 .callC (c3 (.cst (.func (.func 110) #[] #[])) (n1 (.ld 3 true) (x 2)) (ld (n2 (.iAddr 1) (x 1) (x 4))))) (.cond (n1 (.un .not) (x 5)) (q (s
 [(3,.cst (.bool false))]) .ret) .skip))) (s [(4,b .add (x 4) (i 1))])))))) (q (s [(3,.cst (.bool true))]) .ret))
def GD:CF:=⟨2,6,[(.var 3)],M0,.plain⟩
def Sm:List Nat:=[0,1,2,4,5,17]
def Lx:Stm:=
 q (q (h 3 .box (c1 (x 0))) (s [(4,i 0)])) (q (.cond (b .eql (ld (fa 0 (x 3))) (i 2)) (q (s [(4,b .xor (x 1) (x 2))]) .ret) .skip) (q (s [(4,b .rem (b .add (x
 1) (x 2)) (ld (fa 1 (x 3))))]) .ret))
def Eh:CF:=⟨3,5,[(.var 4)],Lx,.plain⟩
def TF:List Nat:=[0,1,2,3,6]
def Lk:Stm:=
 q (q (h 3 .box (c1 (x 0))) (s [(4,i 0)])) (q (.cond (b .eql (ld (fa 0 (x 3))) (i 2)) (q (s [(4,b .xor (x 1) (x 2))]) .ret) .skip) (q (s [(4,b .rem (b .sub (b
 .add (x 1) (ld (fa 1 (x 3)))) (x 2)) (ld (fa 1 (x 3))))]) .ret))
def CD:CF:=⟨3,5,[(.var 4)],Lk,.plain⟩
def TA:List Nat:=[0,1,2,3,6]
def Kz:Stm:=
 q (q (h 3 .box (c1 (x 0))) (s [(4,i 0)])) (q (.cond (b .neq (ld (fa 0 (x 3))) (i 2)) (q (s [(4,b .rem (b .mul (x 1) (x 2)) (ld (fa 1 (x 3))))]) .ret) .skip)
 (q (s [(5,i 0)]) (q (q (s [(6,i 0)]) (.block 0 (.loop (q (.cond (b .gtr (b .shr (x 2) (n1 (.cvt .u64) (x 6))) (i 0)) .skip (.exit 0)) (q (.block 1 (.cond (b
 .eql (b .and (b .shr (x 2) (n1 (.cvt .u64) (x 6))) (i 1)) (i 1)) (s [(5,b .xor (x 5) (b .shl (x 1) (n1 (.cvt .u64) (x 6))))]) .skip)) (s [(6,b .add (x 6) (i
 1))])))))) (q (q (cl 7 113 (c2 (x 5) (ld (fa 2 (x 3))))) (s [(4,x 7)])) .ret))))
def EK:CF:=⟨3,8,[(.var 4)],Kz,.plain⟩
def Ur:List Nat:=[0,1,2,3,6,7,8,40]
def MZ:Stm:=
 q (q (h 3 .box (c1 (x 0))) (q (h 4 (.alloc [.int .i64 0,.int .i64 0,.int .i64 0,.int .i64 0,.int .i64 0]) .nil) (s [(5,i 0)]))) (q (q (cl 7 109 (c1 (n1
 (.ld 3 true) (x 3)))) (.cond (n1 (.un .not) (x 7)) (q (q (.hv [] [] [] none (.st 5) (c2 (x 4) (.node (.build [.int .i64 0,.int .i64 0,.int .i64 0,.int .i64
 0,.int .i64 0] []) .nil))) (s [(5,i 1)])) .ret) .skip)) (q (q (.hv [(8,.node (.build [.int .i64 0,.int .i64 0,.int .i64 0,.int .i64 0,.int .i64 0] [(0,
 3),(3,1),(4,1)]) (c3 (n1 (.ld 3 true) (x 3)) (x 1) (x 2)))] [] [] (some 6) (.alloc [.int .i64 0,.int .i64 0,.int .i64 0,.int .i64 0,.int .i64 0])
 .nil) (.hv [] [] [] none (.st 5) (c2 (x 6) (x 8)))) (q (q (cl 9 64 (c1 (n1 (.ld 5 true) (x 6)))) (.cond (n1 (.un .not) (x 9)) (q (q (.hv [] [] [] none (.st 5)
 (c2 (x 4) (.node (.build [.int .i64 0,.int .i64 0,.int .i64 0,.int .i64 0,.int .i64 0] []) .nil))) (s [(5,i 3)])) .ret) .skip)) (q (q (.hv [] [] [] none
 (.st 5) (c2 (x 4) (n1 (.ld 5 true) (x 6)))) (s [(5,i 0)])) .ret))))
def G0:CF:=⟨3,10,[(.node (.ld 5 true) (.cons (.var 4) .nil)),(.var 5)],MZ,.plain⟩
def VA:List Nat:=[0,1,2,3,6,7,8,10,16,18]
def MG:Stm:=
 q (q (h 1 .box (c1 (x 0))) (h 2 (.alloc [.int .i64 0,.int .i64 0,.slice none 0 0,.slice none 0 0]) .nil)) (q (q (cl 7 114 (c1 (n1 (.ld 3 true) (x 1))))
 (.sets [(3,ix 0 (x 7))] [ix 1 (x 7)])) (q (q (.hv [(11,ld (fa 1 (x 1))),(9,ld (fa 1 (x 1))),(8,ld (fa 0 (x 1)))] [] [] (some 10) (.mkSl [.int .i64 0])
 (c2 (b .sub (ld (fa 1 (x 1))) (i 1)) (b .sub (ld (fa 1 (x 1))) (i 1)))) (q (h 12 (.mkSl [.int .i64 0]) (c2 (x 11) (x 11))) (q (.hv [(13,.node (.build [.int
 .i64 0,.int .i64 0,.slice none 0 0,.slice none 0 0] [(0,1),(1,1),(2,1),(3,1)]) (c (x 8) (c3 (x 9) (x 10) (x 12))))] [] [] (some 4) (.alloc [.int
 .i64 0,.int .i64 0,.slice none 0 0,.slice none 0 0]) .nil) (.hv [] [] [] none (.st 4) (c2 (x 4) (x 13)))))) (q (s [(5,i 1)]) (q (q (s [(15,i 0),(14,n1
 .len (ld (fa 2 (x 4))))]) (.block 0 (.loop (q (.cond (b .lss (x 15) (x 14)) .skip (.exit 0)) (q (.block 1 (q (s [(6,x 15)]) (q (q (.hv [(20,n2 (.iAddr 1)
 (ld (fa 2 (x 4))) (x 6)),(19,x 6),(18,x 5),(17,ld (fa 3 (x 4))),(16,fa 3 (x 4))] [] [] none (.st 1) (c2 (n2 (.iAddr 1) (ld (fa 2 (x 4))) (x 6)) (x
 5))) (q (.hv [] [] [] none (.st 1) (c2 (n2 (.iAddr 1) (x 17) (x 18)) (x 19))) (.dist (x 20) (x 16)))) (q (cl 21 115 (c3 (n1 (.ld 3 true) (x 1)) (x 5) (x 3)))
 (.sets [(5,ix 0 (x 21))] [ix 1 (x 21)]))))) (s [(15,b .add (x 15) (i 1))])))))) (q (.hv [] [] [] none (.st 4) (c2 (x 2) (n1 (.ld 4 true) (x 4)))) .ret)))))
def EL:CF:=⟨1,22,[(.node (.ld 4 true) (.cons (.var 2) .nil))],MG,.plain⟩
def Ux:List Nat:=[0,1,2,3,5,6,7,10,14,16,20,22,23,24,27,28,34,35,36,38,39,45]
def LI:Stm:=
 q (s [(1,.cst (.bool false))]) (q (q (h 4 (.bSl [.nilFunc] 6 [0,1,2,3,4,5]) (c (n1 (.mkF 116 1) (x 0)) (c (n1 (.mkF 117 1) (x 0)) (c (n1 (.mkF 118 1) (x
 0)) (c3 (n1 (.mkF 119 1) (x 0)) (n1 (.mkF 120 1) (x 0)) (n1 (.mkF 121 1) (x 0))))))) (s [(2,x 4)])) (q (q (s [(7,i 0),(6,n1 .len (x 2)),(5,x 2)])
 (.block 0 (.loop (q (.cond (b .lss (x 7) (x 6)) .skip (.exit 0)) (q (.block 1 (q (s [(3,ld (n2 (.iAddr 1) (x 5) (x 7)))]) (q (h 8 (.call false) (c1 (x 3)))
 (.cond (n1 (.un .not) (x 8)) (q (s [(1,.cst (.bool false))]) .ret) .skip)))) (s [(7,b .add (x 7) (i 1))])))))) (q (s [(1,.cst (.bool true))]) .ret)))
def GR:CF:=⟨1,9,[(.var 1)],LI,.plain⟩
def SI:List Nat:=[0,2,3,5,18,19,20,21,26]
def MQ:Stm:=
 q (s [(3,i 0),(2,.cst (.slice none 0 0))]) (q (q (h 7 (.mkSl [.bool false]) (c2 (x 0) (x 0))) (s [(4,x 7)])) (q (s [(5,i 0)]) (q (q (s [(6,i 0)]) (.block
 0 (.loop (q (.cond (b .lss (x 6) (n1 .len (x 1))) .skip (.exit 0)) (q (.block 1 (.cond (n1 (.un .not) (ld (n2 (.iAddr 1) (x 4) (ld (n2 (.iAddr 1) (x 1) (x
 6)))))) (q (.hv [] [] [] none (.st 1) (c2 (n2 (.iAddr 1) (x 4) (ld (n2 (.iAddr 1) (x 1) (x 6)))) (.cst (.bool true)))) (s [(5,b .add (x 5) (i 1))])) .skip))
 (s [(6,b .add (x 6) (i 1))])))))) (q (s [(3,x 5),(2,x 4)]) .ret))))
def F5:CF:=⟨2,8,[(.var 2),(.var 3)],MQ,.plain⟩
def Ul:List Nat:=[0,1,4,5,6,7,8,10]
def ti:Stm:=
 q (q (h 4 .box (c1 (x 0))) (q (h 5 (.alloc [.slice none 0 0,.slice none 0 0]) .nil) (s [(6,i 0)]))) (q (q (.hv [(24,n1 (.ld 3 true) (fa 0 (x 4)))] [] []
 (some 7) (.alloc [.int .i64 0,.int .i64 0,.int .i64 0]) .nil) (.hv [] [] [] none (.st 3) (c2 (x 7) (x 24)))) (q (q (cl 25 122 (c2 (n1 (.ld 5 true) (x 4)) (x
 1))) (s [(8,x 25)])) (q (q (cl 26 123 (c2 (n1 (.ld 3 true) (x 7)) (n1 .len (x 1)))) (s [(9,x 26)])) (q (q (h 27 (.bSl [.int .i64 0] 1 [0]) (c1 (i 1))) (s
 [(10,x 27)])) (q (q (s [(11,i 0)]) (.block 0 (.loop (q (.cond (b .lss (x 11) (n1 .len (x 1))) .skip (.exit 0)) (q (.block 1 (.cond (ld (n2 (.iAddr 1) (x 2)
 (x 11))) (q (.hv [(32,b .add (n1 .len (x 10)) (i 1)),(29,x 10),(28,n1 (.ld 3 true) (x 7))] [] [] (some 30) (.call true) (c (.cst (.func (.func 68) #[]
 #[])) (c3 (n1 (.ld 3 true) (x 7)) (i 0) (ld (n2 (.iAddr 1) (x 9) (x 11)))))) (q (h 31 (.bSl [.int .i64 0] 2 [0,1]) (c2 (i 1) (x 30))) (q (h 33 .callC (c
 (.cst (.func (.func 112) #[] #[])) (c (x 28) (c3 (x 29) (x 31) (x 32))))) (s [(10,x 33)])))) .skip)) (s [(11,b .add (x 11) (i 1))])))))) (q (q (.hv [(36,x
 3),(34,n1 (.ld 3 true) (x 7))] [] [] (some 35) (.call true) (c (.cst (.func (.func 112) #[] #[])) (c (n1 (.ld 3 true) (x 7)) (c3 (x 8) (x 10) (n1 .len (x
 8)))))) (q (h 37 .callC (c3 (.cst (.func (.func 124) #[] #[])) (x 34) (n2 (.sl 1 true false false) (x 35) (x 36)))) (s [(13,ix 1 (x 37)),(12,ix 0 (x
 37))]))) (q (s [(15,.cst (.slice none 0 0)),(14,.cst (.slice none 0 0))]) (q (s [(16,i 0)]) (q (q (s [(17,i 0)]) (.block 2 (.loop (q (.cond (b .lss (x
 17) (n1 .len (x 1))) .skip (.exit 2)) (q (.block 3 (q (q (.hv [(40,p (n1 (.un .not) (ld (n2 (.iAddr 1) (x 2) (x 17)))) (x 12) (.cst (.tuple #[]))),(39,p
 (n1 (.un .not) (ld (n2 (.iAddr 1) (x 2) (x 17)))) (n1 (.ld 3 true) (x 7)) (.cst (.tuple #[]))),(38,n1 (.un .not) (ld (n2 (.iAddr 1) (x 2) (x 17))))] [] [(n1
 (.un .not) (ld (n2 (.iAddr 1) (x 2) (x 17))),true)] (some 41) (.call true) (c3 (.cst (.func (.func 126) #[] #[])) (n1 (.ld 3 true) (x 7)) (ld (n2 (.iAddr 1)
 (x 9) (x 17))))) (q (.hv [] [] [(x 38,true)] (some 42) .callC (c (.cst (.func (.func 125) #[] #[])) (c3 (x 39) (x 40) (x 41)))) (s [(18,p (x 38) (b .eql (x
 42) (i 0)) (.cst (.bool false)))]))) (q (.cond (x 18) (s [(16,b .add (x 16) (i 1))]) .skip) (.cond (p (x 18) (.cst (.bool true)) (ld (n2 (.iAddr 1) (x 2) (x
 17)))) (q (q (.hv [(43,x 14)] [] [] (some 44) (.bSl [.int .i64 0] 1 [0]) (c1 (ld (n2 (.iAddr 1) (x 9) (x 17))))) (q (h 45 (.app 1 [.int .i64 0]) (c2 (x 43)
 (x 44))) (s [(14,x 45)]))) (q (.hv [(46,x 15)] [] [] (some 47) (.bSl [.int .i64 0] 1 [0]) (c1 (x 17))) (q (h 48 (.app 1 [.int .i64 0]) (c2 (x 46) (x 47)))
 (s [(15,x 48)])))) .skip)))) (s [(17,b .add (x 17) (i 1))])))))) (q (.cond (p (p (b .neq (x 16) (x 13)) (.cst (.bool true)) (b .neq (x 16) (b .sub (n1 .len
 (x 12)) (i 1)))) (.cst (.bool true)) (b .gtr (b .add (b .mul (i 2) (x 16)) (x 3)) (ld (fa 3 (x 4))))) (q (q (.hv [] [] [] none (.st 2) (c2 (x 5) (.node
 (.build [.slice none 0 0,.slice none 0 0] []) .nil))) (s [(6,i 17)])) .ret) .skip) (q (q (.hv [(49,.node (.build [.slice none 0 0,.slice none 0 0] [])
 .nil)] [] [] (some 19) (.alloc [.slice none 0 0,.slice none 0 0]) .nil) (.hv [] [] [] none (.st 2) (c2 (x 19) (x 49)))) (q (q (h 50 (.app 1 [.int .i64 0])
 (c2 (ld (fa 0 (x 19))) (x 1))) (.hv [] [] [] none (.st 1) (c2 (fa 0 (x 19)) (x 50)))) (q (q (cl 51 127 (c (n1 (.ld 3 true) (x 7)) (c3 (x 8) (x 14) (ld (fa 4
 (x 4)))))) (s [(20,x 51)])) (q (q (s [(21,i 0)]) (.block 4 (.loop (q (.cond (b .lss (x 21) (n1 .len (x 15))) .skip (.exit 4)) (q (.block 5 (.cond (b .neq
 (ld (n2 (.iAddr 1) (x 20) (x 21))) (i 0)) (q (q (.hv [(53,ld (n2 (.iAddr 1) (x 15) (x 21))),(52,ld (fa 0 (x 19)))] [] [] (some 54) (.call true) (c (.cst
 (.func (.func 68) #[] #[])) (c3 (n1 (.ld 3 true) (x 7)) (ld (n2 (.iAddr 1) (x 1) (ld (n2 (.iAddr 1) (x 15) (x 21))))) (ld (n2 (.iAddr 1) (x 20) (x 21))))))
 (.hv [] [] [] none (.st 1) (c2 (n2 (.iAddr 1) (x 52) (x 53)) (x 54)))) (q (.hv [(55,ld (fa 1 (x 19)))] [] [] (some 56) (.bSl [.int .i64 0] 1 [0]) (c1 (ld (n2
 (.iAddr 1) (x 15) (x 21))))) (q (h 57 (.app 1 [.int .i64 0]) (c2 (x 55) (x 56))) (.hv [] [] [] none (.st 1) (c2 (fa 1 (x 19)) (x 57)))))) .skip)) (s [(21,b
 .add (x 21) (i 1))])))))) (q (q (cl 58 122 (c2 (n1 (.ld 5 true) (x 4)) (ld (fa 0 (x 19))))) (s [(22,x 58)])) (q (q (s [(23,i 0)]) (.block 6 (.loop (q (.cond
 (b .lss (x 23) (n1 .len (x 22))) .skip (.exit 6)) (q (.block 7 (.cond (b .neq (ld (n2 (.iAddr 1) (x 22) (x 23))) (i 0)) (q (q (.hv [] [] [] none (.st 2) (c2
 (x 5) (.node (.build [.slice none 0 0,.slice none 0 0] []) .nil))) (s [(6,i 17)])) .ret) .skip)) (s [(23,b .add (x 23) (i 1))])))))) (q (q (.hv [] [] []
 none (.st 2) (c2 (x 5) (n1 (.ld 2 true) (x 19)))) (s [(6,i 0)])) .ret)))))))))))))))))
def rJ:CF:=⟨4,59,[(.node (.ld 2 true) (.cons (.var 5) .nil)),(.var 6)],ti,.plain⟩
def U7:List Nat:=[0,1,2,3,4,8,9,10,11,12,13,14,15,16,17,18,19,20,21,22,23,24,25,26,28,31,35,36,47,48,54,55,58,59,61,67,68,70,84,85,86,92,93,106,111,112,113,115,116,137,141,148,161,165,178,181,186,187,192]
def Rb:List Nat:=[0,2,3,4,5,6,10,12,19]
def RF:List Nat:=[0,2,3,4,5,6,8,10,18,34,43,44,48,49,53,54,55,59,60,63,66,67,78,79,80,84,86,89,92,93]
def Mf:List Nat:=[0,1,2,3]
def RC:List Nat:=[0,1,4,5,6,7,8,9,10,11,12,13,14,18,20,48,73]
def OM:List Nat:=[0,1,2,3,6,7,8,9,10,12,53]
def OH:List Nat:=[0,1,2,6,7,8]
def Qk:List Nat:=[0,1,2]
def R1:List Nat:=[0,1,4,5,7,8,16]
def OX:List Nat:=[0,1,2,3]
def PZ:List Nat:=[0,1,4,5,13,17,21,22,34,38,47,48,51,55,59,63,67,71,75]
def K8:Stm:=
 q (q (h 2 .box (c1 (x 1))) (s [(3,i 0)])) (q (q (s [(6,i 0),(5,n1 .len (x 0))]) (.block 0 (.loop (q (.cond (b .lss (x 6) (x 5)) .skip (.exit 0)) (q (.block
 1 (q (s [(4,x 6)]) (.cond (n2 (.eqA false [1,1,1,1,1,1,1]) (n1 (.ld 7 true) (x 2)) (n1 (.ld 7 true) (n2 (.iAddr 7) (x 0) (x 4)))) (q (s [(3,x 4)])
 .ret) .skip))) (s [(6,b .add (x 6) (i 1))])))))) (q (s [(3,i (-1))]) .ret))
def EW:CF:=⟨2,7,[(.var 3)],K8,.plain⟩
def T7:List Nat:=[0,1,3,4,5,7,8]
def Fs:Stm:=
 q (q (h 1 .box (c1 (x 0))) (s [(2,.cst (.bool false))])) (q (.cond (b .eql (ld (fa 2 (x 1))) (i 0)) (q (q (.hv [(3,p (p (b .gtr (ld (fa 1 (x 1))) (i 2)) (b
 .leq (ld (fa 1 (x 1))) (i 4096)) (.cst (.bool false))) (n2 (.eqA false [1,1,1]) (n1 (.ld 3 true) (x 1)) (n2 (.build [.int .i64 0,.int .i64 0,.int .i64 0]
 [(0,1),(1,1)]) (ld (fa 1 (x 1))) (ld (fa 1 (x 1))))) (.cst (.bool false)))] [] [(p (p (b .gtr (ld (fa 1 (x 1))) (i 2)) (b .leq (ld (fa 1 (x 1))) (i 4096))
 (.cst (.bool false))) (n2 (.eqA false [1,1,1]) (n1 (.ld 3 true) (x 1)) (n2 (.build [.int .i64 0,.int .i64 0,.int .i64 0] [(0,1),(1,1)]) (ld (fa 1 (x
 1))) (ld (fa 1 (x 1))))) (.cst (.bool false)),true)] (some 4) (.call false) (c2 (.cst (.func (.func 148) #[] #[])) (ld (fa 1 (x 1))))) (s [(2,p (x 3) (x 4)
 (.cst (.bool false)))])) .ret) .skip) (q (q (.hv [(5,b .lss (ld (fa 2 (x 1))) (i 2))] [] [(b .lss (ld (fa 2 (x 1))) (i 2),false)] (some 6) (.call false) (c2
 (.cst (.func (.func 149) #[] #[])) (ld (fa 2 (x 1))))) (.cond (p (x 5) (.cst (.bool true)) (b .gtr (x 6) (i 12))) (q (s [(2,.cst (.bool false))]) .ret)
 .skip)) (q (q (.hv [(9,ld (fa 2 (x 1))),(7,n1 (.ld 3 true) (x 1))] [] [] (some 8) (.call true) (c2 (.cst (.func (.func 149) #[] #[])) (ld (fa 2 (x 1)))))
 (q (.hv [(10,n2 (.eqA false [1,1,1]) (x 7) (.node (.build [.int .i64 0,.int .i64 0,.int .i64 0] [(0,1),(1,1),(2,1)]) (c3 (i 2) (b .shl (i 1) (x 8))
 (x 9))))] [] [(n2 (.eqA false [1,1,1]) (x 7) (.node (.build [.int .i64 0,.int .i64 0,.int .i64 0] [(0,1),(1,1),(2,1)]) (c3 (i 2) (b .shl (i 1) (x 8))
 (x 9))),true)] (some 11) .callC (c2 (.cst (.func (.func 150) #[] #[])) (ld (fa 2 (x 1))))) (s [(2,p (x 10) (x 11) (.cst (.bool false)))]))) .ret)))
def vz:CF:=⟨1,12,[(.var 2)],Fs,.plain⟩
def Og:List Nat:=[0,1,2,23,26,31,34,37,40,43,46,49]
def CY:Stm:=
 q (q (h 3 .box (c1 (x 0))) (s [(4,.cst (.bool false))])) (q (s [(4,p (p (p (b .geq (x 1) (i 1)) (b .leq (x 1) (b .sub (ld (fa 1 (x 3))) (i 2))) (.cst (.bool
 false))) (b .geq (x 2) (i 0)) (.cst (.bool false))) (b .leq (x 2) (b .sub (ld (fa 1 (x 3))) (i 2))) (.cst (.bool false)))]) .ret)
def xU:CF:=⟨3,5,[(.var 4)],CY,.plain⟩
def QE:List Nat:=[0,1,2,3,6]
def Fb:Stm:=
 q (q (h 2 .box (c1 (x 0))) (s [(3,.cst (.bool false))])) (q (q (s [(7,i 0),(6,n1 .len (x 1)),(5,x 1)]) (.block 0 (.loop (q (.cond (b .lss (x 7) (x 6))
 .skip (.exit 0)) (q (.block 1 (q (s [(4,ld (n2 (.iAddr 1) (x 5) (x 7)))]) (.cond (p (b .lss (x 4) (i 0)) (.cst (.bool true)) (b .geq (x 4) (ld (fa 1 (x
 2))))) (q (s [(3,.cst (.bool false))]) .ret) .skip))) (s [(7,b .add (x 7) (i 1))])))))) (q (s [(3,.cst (.bool true))]) .ret))
def xV:CF:=⟨2,8,[(.var 3)],Fb,.plain⟩
def Ny:List Nat:=[0,1,2,4,6,7,8,9]
def Fp:Stm:=
 q (q (h 2 .box (c1 (x 0))) (s [(3,i 0)])) (q (s [(3,ld (n2 (.iAddr 1) (ld (fa 2 (x 2))) (b .rem (x 1) (b .sub (ld (fa 1 (x 2))) (i 1)))))]) .ret)
def wF:CF:=⟨2,4,[(.var 3)],Fp,.plain⟩
def N1:List Nat:=[0,1,2,4]
def EH:Stm:=
 q (q (h 2 .box (c1 (x 0))) (s [(4,i 0),(3,.cst (.slice none 0 0))])) (q (q (cl 8 105 (c2 (n1 (.ld 3 true) (x 2)) (.cst (.slice none 0 0)))) (q (.hv [(9,n1
 (.un .not) (x 8))] [] [(n1 (.un .not) (x 8),false)] (some 10) (.call false) (c3 (.cst (.func (.func 151) #[] #[])) (n1 (.ld 3 true) (x 2)) (x 1))) (.cond (p
 (x 9) (.cst (.bool true)) (n1 (.un .not) (x 10))) (q (s [(4,i 1),(3,.cst (.slice none 0 0))]) .ret) .skip))) (q (.cond (b .gtr (n1 .len (x 1)) (i 4096)) (q
 (s [(4,i 4),(3,.cst (.slice none 0 0))]) .ret) .skip) (q (q (cl 11 106 (c1 (n1 (.ld 3 true) (x 2)))) (q (h 5 (.alloc [.int .i64 0,.int .i64 0,.slice none
 0 0,.slice none 0 0]) .nil) (.hv [] [] [] none (.st 4) (c2 (x 5) (x 11))))) (q (q (h 12 (.bSl [.int .i64 0] 1 [0]) (c1 (i 1))) (s [(6,x 12)])) (q (q (s
 [(15,i 0),(14,n1 .len (x 1)),(13,x 1)]) (.block 0 (.loop (q (.cond (b .lss (x 15) (x 14)) .skip (.exit 0)) (q (.block 1 (q (s [(7,ld (n2 (.iAddr 1) (x
 13) (x 15)))]) (q (cl 16 152 (c (n1 (.ld 4 true) (x 5)) (c3 (x 6) (x 7) (i 0)))) (s [(6,x 16)])))) (s [(15,b .add (x 15) (i 1))])))))) (q (s [(4,i 0),(3,
 x 6)]) .ret))))))
def uY:CF:=⟨2,17,[(.var 3),(.var 4)],EH,.plain⟩
def Nt:List Nat:=[0,1,2,4,5,6,7,9,11,13,16,23,24,25,26,27,34]
def zu:Stm:=
 q (q (h 2 .box (c1 (x 0))) (s [(3,.cst (.bool false))])) (q (q (cl 6 100 (c1 (n1 (.ld 3 true) (x 2)))) (.cond (n1 (.un .not) (x 6)) (q (s [(3,.cst (.bool
 false))]) .ret) .skip)) (q (q (s [(9,i 0),(8,n1 .len (x 1)),(7,x 1)]) (.block 0 (.loop (q (.cond (b .lss (x 9) (x 8)) .skip (.exit 0)) (q (.block 1 (q (s
 [(4,ld (n2 (.iAddr 1) (x 7) (x 9)))]) (q (s [(5,n1 .len (x 4))]) (q (.hv [(10,p (b .gtr (x 5) (i 4097)) (.cst (.bool true)) (p (b .gtr (x 5) (i 0)) (b .eql
 (ld (n2 (.iAddr 1) (x 4) (b .sub (x 5) (i 1)))) (i 0)) (.cst (.bool false))))] [] [(p (b .gtr (x 5) (i 4097)) (.cst (.bool true)) (p (b .gtr (x 5) (i 0)) (b
 .eql (ld (n2 (.iAddr 1) (x 4) (b .sub (x 5) (i 1)))) (i 0)) (.cst (.bool false))),false)] (some 11) (.call false) (c3 (.cst (.func (.func 151) #[] #[])) (n1
 (.ld 3 true) (x 2)) (x 4))) (.cond (p (x 10) (.cst (.bool true)) (n1 (.un .not) (x 11))) (q (s [(3,.cst (.bool false))]) .ret) .skip))))) (s [(9,b .add (x
 9) (i 1))])))))) (q (s [(3,.cst (.bool true))]) .ret)))
def rZ:CF:=⟨2,12,[(.var 3)],zu,.plain⟩
def Mx:List Nat:=[0,1,2,4,6,7,9,11,12,13,33,36]
def GW:Stm:=
 q (q (h 1 .box (c1 (x 0))) (h 2 (.alloc [.int .i64 0,.int .i64 0,.slice none 0 0,.slice none 0 0]) .nil)) (q (q (cl 7 114 (c1 (n1 (.ld 3 true) (x 1))))
 (.sets [(3,ix 0 (x 7))] [ix 1 (x 7)])) (q (q (.hv [(11,ld (fa 1 (x 1))),(9,ld (fa 1 (x 1))),(8,ld (fa 0 (x 1)))] [] [] (some 10) (.mkSl [.int .i64 0])
 (c2 (b .sub (ld (fa 1 (x 1))) (i 1)) (b .sub (ld (fa 1 (x 1))) (i 1)))) (q (h 12 (.mkSl [.int .i64 0]) (c2 (x 11) (x 11))) (q (.hv [(13,.node (.build [.int
 .i64 0,.int .i64 0,.slice none 0 0,.slice none 0 0] [(0,1),(1,1),(2,1),(3,1)]) (c (x 8) (c3 (x 9) (x 10) (x 12))))] [] [] (some 4) (.alloc [.int
 .i64 0,.int .i64 0,.slice none 0 0,.slice none 0 0]) .nil) (.hv [] [] [] none (.st 4) (c2 (x 4) (x 13)))))) (q (s [(5,i 1)]) (q (q (s [(15,i 0),(14,n1
 .len (ld (fa 2 (x 4))))]) (.block 0 (.loop (q (.cond (b .lss (x 15) (x 14)) .skip (.exit 0)) (q (.block 1 (q (s [(6,x 15)]) (q (q (.hv [(20,n2 (.iAddr 1)
 (ld (fa 2 (x 4))) (x 6)),(19,x 6),(18,x 5),(17,ld (fa 3 (x 4))),(16,fa 3 (x 4))] [] [] none (.st 1) (c2 (n2 (.iAddr 1) (ld (fa 2 (x 4))) (x 6)) (x
 5))) (q (.hv [] [] [] none (.st 1) (c2 (n2 (.iAddr 1) (x 17) (x 18)) (x 19))) (.dist (x 20) (x 16)))) (q (cl 21 115 (c3 (n1 (.ld 3 true) (x 1)) (x 5) (x 3)))
 (.sets [(5,ix 0 (x 21))] [ix 1 (x 21)]))))) (s [(15,b .add (x 15) (i 1))])))))) (q (.hv [] [] [] none (.st 4) (c2 (x 2) (n1 (.ld 4 true) (x 4)))) .ret)))))
def w5:CF:=⟨1,22,[(.node (.ld 4 true) (.cons (.var 2) .nil))],GW,.plain⟩
def Qu:List Nat:=[0,1,2,3,5,6,7,10,14,16,20,22,23,24,27,28,34,35,36,38,39,45]
def CQ:Stm:=
 q (q (h 3 .box (c1 (x 0))) (s [(5,.cst (.slice none 0 0)),(4,.cst (.slice none 0 0))])) (q (q (h 11 (.app 1 [.int .i64 0]) (c2 (.cst (.slice none 0 0)) (x
 1))) (s [(5,x 11)])) (q (s [(6,b .sub (n1 .len (x 2)) (i 1))]) (q (.cond (b .gtr (n1 .len (x 1)) (x 6)) (q (h 12 (.mkSl [.int .i64 0]) (c2 (b .sub (n1 .len
 (x 1)) (x 6)) (b .sub (n1 .len (x 1)) (x 6)))) (s [(4,x 12)])) .skip) (q (q (s [(7,b .sub (n1 .len (x 4)) (i 1))]) (.block 0 (.loop (q (.cond (b .geq (x 7)
 (i 0)) .skip (.exit 0)) (q (.block 1 (q (q (h 13 .callC (c (.cst (.func (.func 153) #[] #[])) (c3 (n1 (.ld 4 true) (x 3)) (ld (n2 (.iAddr 1) (x 5) (b .add (x
 7) (x 6)))) (ld (n2 (.iAddr 1) (x 2) (x 6)))))) (s [(8,x 13)])) (q (.hv [] [] [] none (.st 1) (c2 (n2 (.iAddr 1) (x 4) (x 7)) (x 8))) (q (s [(16,i 0),(15,
 n1 .len (x 2)),(14,x 2)]) (.block 2 (.loop (q (.cond (b .lss (x 16) (x 15)) .skip (.exit 2)) (q (.block 3 (q (s [(10,ld (n2 (.iAddr 1) (x 14) (x 16))),(9,
 x 16)]) (q (.hv [(20,ld (n2 (.iAddr 1) (x 5) (b .add (x 7) (x 9)))),(19,n1 (.ld 4 true) (x 3)),(18,b .add (x 7) (x 9)),(17,x 5)] [] [] (some 21) (.call
 true) (c (.cst (.func (.func 155) #[] #[])) (c3 (n1 (.ld 4 true) (x 3)) (x 8) (x 10)))) (q (h 22 .callC (c (.cst (.func (.func 154) #[] #[])) (c3 (x 19) (x
 20) (x 21)))) (.hv [] [] [] none (.st 1) (c2 (n2 (.iAddr 1) (x 17) (x 18)) (x 22))))))) (s [(16,b .add (x 16) (i 1))]))))))))) (s [(7,b .sub (x 7) (i
 1))])))))) (q (q (.hv [(23,x 4)] [] [] (some 24) (.call false) (c2 (.cst (.func (.func 62) #[] #[])) (x 5))) (s [(5,x 24),(4,x 23)])) .ret)))))
def vW:CF:=⟨3,25,[(.var 4),(.var 5)],CQ,.plain⟩
def O8:List Nat:=[0,1,2,3,6,7,8,9,10,11,12,14,26,45,50,51,52,57,60,61,67,71,72,75,77]
def F0:Stm:=
 q (q (h 2 .box (c1 (x 0))) (s [(3,.cst (.bool false))])) (q (q (cl 5 100 (c1 (n1 (.ld 3 true) (x 2)))) (.cond (n1 (.un .not) (x 5)) (q (s [(3,.cst (.bool
 false))]) .ret) .skip)) (q (q (s [(8,i 0),(7,n1 .len (x 1)),(6,x 1)]) (.block 0 (.loop (q (.cond (b .lss (x 8) (x 7)) .skip (.exit 0)) (q (.block 1 (q (s
 [(4,ld (n2 (.iAddr 1) (x 6) (x 8)))]) (.cond (p (b .lss (x 4) (i 0)) (.cst (.bool true)) (b .geq (x 4) (ld (fa 1 (x 2))))) (q (s [(3,.cst (.bool false))])
 .ret) .skip))) (s [(8,b .add (x 8) (i 1))])))))) (q (s [(3,.cst (.bool true))]) .ret)))
def vB:CF:=⟨2,9,[(.var 3)],F0,.plain⟩
def Pu:List Nat:=[0,1,2,4,6,8,10,11,12]
def Bv:Stm:=
 q (q (h 1 .box (c1 (x 0))) (s [(2,.cst (.bool false))])) (q (.cond (b .eql (ld (fa 0 (x 1))) (i 2)) (q (q (cl 4 156 (c1 (ld (fa 1 (x 1))))) (s [(3,x 4)])) (q
 (q (.hv [(5,p (p (p (b .geq (x 3) (i 1)) (b .leq (x 3) (i 12)) (.cst (.bool false))) (b .eql (ld (fa 1 (x 1))) (b .shl (i 1) (n1 (.cvt .u64) (x 3)))) (.cst
 (.bool false))) (b .lss (ld (fa 2 (x 1))) (b .shl (i 1) (n1 (.cvt .u64) (b .add (x 3) (i 1))))) (.cst (.bool false)))] [] [(p (p (p (b .geq (x 3) (i 1)) (b
 .leq (x 3) (i 12)) (.cst (.bool false))) (b .eql (ld (fa 1 (x 1))) (b .shl (i 1) (n1 (.cvt .u64) (x 3)))) (.cst (.bool false))) (b .lss (ld (fa 2 (x 1))) (b
 .shl (i 1) (n1 (.cvt .u64) (b .add (x 3) (i 1))))) (.cst (.bool false)),true)] (some 6) (.call false) (c3 (.cst (.func (.func 157) #[] #[])) (ld (fa 2 (x
 1))) (x 3))) (s [(2,p (x 5) (x 6) (.cst (.bool false)))])) .ret)) .skip) (q (q (.hv [(7,p (p (p (b .eql (ld (fa 0 (x 1))) (ld (fa 1 (x 1)))) (b .eql (ld (fa
 2 (x 1))) (i 0)) (.cst (.bool false))) (b .geq (ld (fa 1 (x 1))) (i 3)) (.cst (.bool false))) (b .leq (ld (fa 1 (x 1))) (i 4096)) (.cst (.bool false)))] []
 [(p (p (p (b .eql (ld (fa 0 (x 1))) (ld (fa 1 (x 1)))) (b .eql (ld (fa 2 (x 1))) (i 0)) (.cst (.bool false))) (b .geq (ld (fa 1 (x 1))) (i 3)) (.cst (.bool
 false))) (b .leq (ld (fa 1 (x 1))) (i 4096)) (.cst (.bool false)),true)] (some 8) (.call false) (c2 (.cst (.func (.func 158) #[] #[])) (ld (fa 1 (x 1))))) (s
 [(2,p (x 7) (x 8) (.cst (.bool false)))])) .ret))
def vV:CF:=⟨1,9,[(.var 2)],Bv,.plain⟩
def Ro:List Nat:=[0,1,2,3,9,33,37,59,62]
def Cn:Stm:=
 q (q (h 2 .box (c1 (x 0))) (s [(3,.cst (.bool false))])) (q (s [(3,p (b .geq (x 1) (i 0)) (b .lss (x 1) (ld (fa 1 (x 2)))) (.cst (.bool false)))]) .ret)
def vY:CF:=⟨2,4,[(.var 3)],Cn,.plain⟩
def RI:List Nat:=[0,1,2,4]
def F9:Stm:=
 q (q (h 1 .box (c1 (x 0))) (s [(2,.cst (.slice none 0 0))])) (q (q (cl 7 159 (c1 (n1 (.ld 3 true) (fa 0 (x 1))))) (s [(3,x 7)])) (q (s [(4,.cst (.slice none
 0 0))]) (q (q (cl 8 160 (c3 (n1 (.ld 3 true) (fa 0 (x 1))) (x 3) (ld (fa 4 (x 1))))) (s [(5,x 8)])) (q (q (s [(6,i 0)]) (.block 0 (.loop (q (.cond (b .lss
 (x 6) (ld (fa 3 (x 1)))) .skip (.exit 0)) (q (.block 1 (q (q (.hv [(9,x 4)] [] [] (some 10) (.bSl [.int .i64 0] 1 [0]) (c1 (x 5))) (q (h 11 (.app 1 [.int
 .i64 0]) (c2 (x 9) (x 10))) (s [(4,x 11)]))) (q (cl 12 69 (c3 (n1 (.ld 3 true) (fa 0 (x 1))) (x 5) (x 3))) (s [(5,x 12)])))) (s [(6,b .add (x 6) (i
 1))])))))) (q (s [(2,x 4)]) .ret)))))
def vh:CF:=⟨1,13,[(.var 2)],F9,.plain⟩
def NP:List Nat:=[0,1,2,3,4,5,6,9,15,22,24,25,30]
def Ek:Stm:=
 q (q (h 4 .box (c1 (x 0))) (s [(5,.cst (.slice none 0 0))])) (q (q (h 9 (.mkSl [.int .i64 0]) (c2 (n2 (.minmax false) (x 3) (n2 (.minmax true) (i 0) (b .sub (b
 .add (n1 .len (x 1)) (n1 .len (x 2))) (i 1)))) (n2 (.minmax false) (x 3) (n2 (.minmax true) (i 0) (b .sub (b .add (n1 .len (x 1)) (n1 .len (x 2))) (i 1))))))
 (s [(6,x 9)])) (q (q (s [(7,i 0)]) (.block 0 (.loop (q (.cond (b .lss (x 7) (n1 .len (x 1))) .skip (.exit 0)) (q (.block 1 (q (s [(8,i 0)]) (.block 2
 (.loop (q (.cond (p (b .lss (x 8) (n1 .len (x 2))) (b .lss (b .add (x 7) (x 8)) (n1 .len (x 6))) (.cst (.bool false))) .skip (.exit 2)) (q (.block 3 (q (.hv
 [(13,ld (n2 (.iAddr 1) (x 6) (b .add (x 7) (x 8)))),(12,n1 (.ld 3 true) (x 4)),(11,b .add (x 7) (x 8)),(10,x 6)] [] [] (some 14) (.call true) (c (.cst
 (.func (.func 69) #[] #[])) (c3 (n1 (.ld 3 true) (x 4)) (ld (n2 (.iAddr 1) (x 1) (x 7))) (ld (n2 (.iAddr 1) (x 2) (x 8)))))) (q (h 15 .callC (c (.cst (.func
 (.func 67) #[] #[])) (c3 (x 12) (x 13) (x 14)))) (.hv [] [] [] none (.st 1) (c2 (n2 (.iAddr 1) (x 10) (x 11)) (x 15)))))) (s [(8,b .add (x 8) (i 1))])))))))
 (s [(7,b .add (x 7) (i 1))])))))) (q (s [(5,x 6)]) .ret)))
def xF:CF:=⟨4,16,[(.var 5)],Ek,.plain⟩
def My:List Nat:=[0,1,2,3,4,8,9,10,11,21,42,45,46,52,62,63]
def Cv:Stm:=
 q (s [(2,i 0)]) (q (q (cl 5 156 (c1 (x 1))) (s [(3,x 5)])) (q (q (q (cl 6 156 (c1 (x 0))) (s [(4,x 6)])) (.block 0 (.loop (q (.cond (b .geq (x 4) (x 3))
 .skip (.exit 0)) (q (.block 1 (.cond (b .eql (b .and (b .shr (x 0) (n1 (.cvt .u64) (x 4))) (i 1)) (i 1)) (s [(0,b .xor (x 0) (b .shl (x 1) (n1 (.cvt .u64) (b
 .sub (x 4) (x 3)))))]) .skip)) (s [(4,b .sub (x 4) (i 1))])))))) (q (s [(2,x 0)]) .ret)))
def ui:CF:=⟨2,7,[(.var 2)],Cv,.plain⟩
def Qx:List Nat:=[0,1,4,5,6,8,10]
def EO:Stm:=
 q (q (h 1 .box (c1 (x 0))) (s [(3,i 0),(2,i 0)])) (q (q (cl 4 108 (c2 (n1 (.ld 3 true) (x 1)) (.cst (.slice none 0 0)))) (.cond (n1 (.un .not) (x 4)) (q (s
 [(3,i 1),(2,i 0)]) .ret) .skip)) (q (q (cl 5 161 (c1 (n1 (.ld 3 true) (x 1)))) (s [(3,i 0),(2,x 5)])) .ret))
def wV:CF:=⟨1,6,[(.var 2),(.var 3)],EO,.plain⟩
def RK:List Nat:=[0,1,2,3,5,8]
def EX:Stm:=
 q (q (h 3 .box (c1 (x 0))) (s [(5,i 0),(4,i 0)])) (q (q (.hv [(6,n1 (.ld 3 true) (x 3))] [] [] (some 7) (.bSl [.int .i64 0] 2 [0,1]) (c2 (x 1) (x 2))) (q
 (cl 8 108 (c2 (x 6) (x 7))) (.cond (n1 (.un .not) (x 8)) (q (s [(5,i 1),(4,i 0)]) .ret) .skip))) (q (q (cl 9 162 (c3 (n1 (.ld 3 true) (x 3)) (x 1) (x 2)))
 (s [(5,i 0),(4,x 9)])) .ret))
def uf:CF:=⟨3,10,[(.var 4),(.var 5)],EX,.plain⟩
def RB:List Nat:=[0,1,2,3,6,7,8,11,12,17]
def Cw:Stm:=
 q (s [(1,.cst (.bool false))]) (q (q (.hv [(2,x 0)] [] [] (some 3) .callC (c (.cst (.func (.func 163) #[] #[])) (c3 (n1 (.ld 4 true) (fa 0 (n1 .nilChk (x
 0)))) (n1 (.ld 5 true) (fa 4 (n1 .nilChk (x 0)))) (ld (fa 9 (n1 .nilChk (x 0))))))) (.hv [] [] [] none (.st 1) (c2 (fa 12 (n1 .nilChk (x 2))) (x 3)))) (q (s
 [(1,b .leq (ld (fa 11 (n1 .nilChk (x 0)))) (ld (fa 3 (fa 4 (n1 .nilChk (x 0))))))]) .ret))
def wo:CF:=⟨1,4,[(.var 1)],Cw,.plain⟩
def Q7:List Nat:=[0,2,3,16]
def Du:Stm:=
 q (s [(1,.cst (.bool false))]) (q (q (.hv [(4,x 0)] [] [] (some 5) (.bSl [.int .i64 0] 1 [0]) (c1 (i 1))) (.hv [] [] [] none (.st 1) (c2 (fa 13 (n1 .nilChk (x
 4))) (x 5)))) (q (q (s [(8,i 0),(7,n1 .len (ld (fa 10 (n1 .nilChk (x 0))))),(6,ld (fa 10 (n1 .nilChk (x 0))))]) (.block 0 (.loop (q (.cond (b .lss (x 8)
 (x 7)) .skip (.exit 0)) (q (.block 1 (q (s [(3,ld (n2 (.iAddr 1) (x 6) (x 8))),(2,x 8)]) (.cond (x 3) (q (.hv [(13,n1 (.ld 4 true) (fa 0 (n1 .nilChk (x
 0)))),(12,ld (fa 13 (n1 .nilChk (x 0)))),(11,ld (fa 13 (n1 .nilChk (x 0)))),(10,n1 (.ld 4 true) (fa 0 (n1 .nilChk (x 0)))),(9,x 0)] [] [] (some 14)
 (.call true) (c3 (.cst (.func (.func 165) #[] #[])) (x 0) (x 2))) (q (h 15 (.call true) (c3 (.cst (.func (.func 103) #[] #[])) (x 13) (x 14))) (q (h 16 .callC
 (c (.cst (.func (.func 164) #[] #[])) (c (x 10) (c (x 11) (c3 (x 12) (i 1) (x 15)))))) (.hv [] [] [] none (.st 1) (c2 (fa 13 (n1 .nilChk (x 9))) (x 16))))))
 .skip))) (s [(8,b .add (x 8) (i 1))])))))) (q (s [(1,.cst (.bool true))]) .ret)))
def vk:CF:=⟨1,17,[(.var 1)],Du,.plain⟩
def Ql:List Nat:=[0,2,3,4,5,6,12,13,14,20,24,28,32,36,39,40,41]
def EF:Stm:=
 q (s [(1,.cst (.bool false))]) (q (q (h 3 .callC (c (.cst (.func (.func 166) #[] #[])) (c (n1 (.ld 4 true) (fa 0 (n1 .nilChk (x 0)))) (c3 (ld (fa 12 (n1
 .nilChk (x 0)))) (ld (fa 13 (n1 .nilChk (x 0)))) (ld (fa 3 (fa 4 (n1 .nilChk (x 0))))))))) (s [(2,x 3)])) (q (q (.hv [(4,x 0)] [] [] (some 5) .callC (c3
 (.cst (.func (.func 167) #[] #[])) (n1 (.ld 4 true) (fa 0 (n1 .nilChk (x 0)))) (n2 (.sl 1 true false false) (x 2) (ld (fa 11 (n1 .nilChk (x 0))))))) (.hv []
 [] [] none (.st 1) (c2 (fa 14 (n1 .nilChk (x 4))) (x 5)))) (q (s [(1,b .leq (b .add (b .mul (i 2) (b .sub (n1 .len (ld (fa 14 (n1 .nilChk (x 0))))) (i 1)))
 (ld (fa 11 (n1 .nilChk (x 0))))) (ld (fa 3 (fa 4 (n1 .nilChk (x 0))))))]) .ret)))
def wh:CF:=⟨1,6,[(.var 1)],EF,.plain⟩
def NN:List Nat:=[0,2,3,21,22,33]
def DU:Stm:=
 q (s [(1,.cst (.bool false))]) (q (s [(2,i 0)]) (q (q (s [(8,i 0),(7,n1 .len (ld (fa 10 (n1 .nilChk (x 0))))),(6,ld (fa 10 (n1 .nilChk (x 0))))]) (.block
 0 (.loop (q (.cond (b .lss (x 8) (x 7)) .skip (.exit 0)) (q (.block 1 (q (s [(4,ld (n2 (.iAddr 1) (x 6) (x 8))),(3,x 8)]) (q (q (.hv [(10,b .sub (ld (fa 1
 (fa 0 (n1 .nilChk (x 0))))) (i 1)),(9,n1 (.ld 4 true) (fa 0 (n1 .nilChk (x 0))))] [] [] (some 11) (.call true) (c3 (.cst (.func (.func 165) #[] #[])) (x 0)
 (x 3))) (q (h 12 .callC (c3 (.cst (.func (.func 103) #[] #[])) (x 9) (b .sub (x 10) (x 11)))) (s [(5,x 12)]))) (q (.hv [(13,n1 (.un .not) (x 4))] [] [(n1
 (.un .not) (x 4),true)] (some 14) .callC (c (.cst (.func (.func 168) #[] #[])) (c3 (n1 (.ld 4 true) (fa 0 (n1 .nilChk (x 0)))) (ld (fa 14 (n1 .nilChk (x
 0)))) (x 5)))) (.cond (p (x 13) (b .eql (x 14) (i 0)) (.cst (.bool false))) (q (s [(2,b .add (x 2) (i 1))]) (q (.hv [(16,ld (fa 15 (n1 .nilChk (x 0)))),
 (15,x 0)] [] [] (some 17) (.bSl [.int .i64 0] 1 [0]) (c1 (x 3))) (q (h 18 (.app 1 [.int .i64 0]) (c2 (x 16) (x 17))) (.hv [] [] [] none (.st 1) (c2 (fa 15
 (n1 .nilChk (x 15))) (x 18)))))) (.cond (x 4) (q (.hv [(20,ld (fa 15 (n1 .nilChk (x 0)))),(19,x 0)] [] [] (some 21) (.bSl [.int .i64 0] 1 [0]) (c1 (x 3)))
 (q (h 22 (.app 1 [.int .i64 0]) (c2 (x 20) (x 21))) (.hv [] [] [] none (.st 1) (c2 (fa 15 (n1 .nilChk (x 19))) (x 22))))) .skip)))))) (s [(8,b .add (x 8) (i
 1))])))))) (q (s [(1,b .eql (x 2) (b .sub (n1 .len (ld (fa 14 (n1 .nilChk (x 0))))) (i 1)))]) .ret)))
def uh:CF:=⟨1,23,[(.var 1)],DU,.plain⟩
def P0:List Nat:=[0,2,3,4,5,6,10,11,12,20,26,29,31,34,44,49,53,55,56,60,64,66,67]
def FB:Stm:=
 q (s [(1,.cst (.bool false))]) (q (q (h 9 .callC (c (.cst (.func (.func 166) #[] #[])) (c (n1 (.ld 4 true) (fa 0 (n1 .nilChk (x 0)))) (c3 (ld (fa 13 (n1
 .nilChk (x 0)))) (ld (fa 14 (n1 .nilChk (x 0)))) (b .sub (b .add (n1 .len (ld (fa 13 (n1 .nilChk (x 0))))) (n1 .len (ld (fa 14 (n1 .nilChk (x 0)))))) (i
 1)))))) (s [(2,x 9)])) (q (q (h 10 .callC (c (.cst (.func (.func 166) #[] #[])) (c (n1 (.ld 4 true) (fa 0 (n1 .nilChk (x 0)))) (c3 (ld (fa 12 (n1 .nilChk (x
 0)))) (x 2) (ld (fa 3 (fa 4 (n1 .nilChk (x 0))))))))) (s [(3,x 10)])) (q (q (cl 11 169 (c2 (n1 (.ld 4 true) (fa 0 (n1 .nilChk (x 0)))) (x 2))) (s [(4,x
 11)])) (q (q (s [(14,i 0),(13,n1 .len (ld (fa 15 (n1 .nilChk (x 0))))),(12,ld (fa 15 (n1 .nilChk (x 0))))]) (.block 0 (.loop (q (.cond (b .lss (x 14) (x
 13)) .skip (.exit 0)) (q (.block 1 (q (s [(5,ld (n2 (.iAddr 1) (x 12) (x 14)))]) (q (q (.hv [(16,b .sub (ld (fa 1 (fa 0 (n1 .nilChk (x 0))))) (i 1)),(15,
 n1 (.ld 4 true) (fa 0 (n1 .nilChk (x 0))))] [] [] (some 17) (.call true) (c3 (.cst (.func (.func 165) #[] #[])) (x 0) (x 5))) (q (h 18 .callC (c3 (.cst (.func
 (.func 103) #[] #[])) (x 15) (b .sub (x 16) (x 17)))) (s [(6,x 18)]))) (q (q (.hv [(21,b .sub (b .add (ld (fa 4 (fa 4 (n1 .nilChk (x 0))))) (ld (fa 1 (fa 0
 (n1 .nilChk (x 0)))))) (i 2)),(19,n1 (.ld 4 true) (fa 0 (n1 .nilChk (x 0))))] [] [] (some 20) (.call true) (c3 (.cst (.func (.func 165) #[] #[])) (x 0) (x
 5))) (q (h 22 .callC (c3 (.cst (.func (.func 103) #[] #[])) (x 19) (b .mul (x 20) (x 21)))) (s [(7,x 22)]))) (q (q (.hv [(24,x 7),(23,n1 (.ld 4 true) (fa
 0 (n1 .nilChk (x 0))))] [] [] (some 25) (.call true) (c (.cst (.func (.func 168) #[] #[])) (c3 (n1 (.ld 4 true) (fa 0 (n1 .nilChk (x 0)))) (x 4) (x 6)))) (q
 (h 26 .callC (c (.cst (.func (.func 170) #[] #[])) (c3 (x 23) (x 24) (x 25)))) (s [(8,x 26)]))) (q (.cond (b .eql (x 8) (i 0)) (q (s [(1,.cst (.bool
 false))]) .ret) .skip) (q (.hv [(33,x 8),(31,n1 (.ld 4 true) (fa 0 (n1 .nilChk (x 0)))),(30,ld (n2 (.iAddr 1) (ld (fa 9 (n1 .nilChk (x 0)))) (x 5))),
 (29,n1 (.ld 4 true) (fa 0 (n1 .nilChk (x 0)))),(28,x 5),(27,ld (fa 9 (n1 .nilChk (x 0))))] [] [] (some 32) (.call true) (c (.cst (.func (.func 168) #[]
 #[])) (c3 (n1 (.ld 4 true) (fa 0 (n1 .nilChk (x 0)))) (x 3) (x 6)))) (q (h 34 (.call true) (c (.cst (.func (.func 172) #[] #[])) (c3 (x 31) (x 32) (x 33))))
 (q (h 35 (.call true) (c (.cst (.func (.func 171) #[] #[])) (c3 (x 29) (x 30) (x 34)))) (.hv [] [] [] none (.st 1) (c2 (n2 (.iAddr 1) (x 27) (x 28)) (x
 35)))))))))))) (s [(14,b .add (x 14) (i 1))])))))) (q (s [(1,.cst (.bool true))]) .ret)))))
def uv:CF:=⟨1,36,[(.var 1)],FB,.plain⟩
def O0:List Nat:=[0,2,3,4,5,7,8,9,10,35,50,56,60,61,62,69,75,78,80,84,87,99,101,105,106,113,114,120,121,125,132,136,143,144,145,146]
def DF:Stm:=
 q (s [(1,.cst (.bool false))]) (q (q (q (.hv [(5,i 0)] [] [] (some 3) .callC (c (.cst (.func (.func 163) #[] #[])) (c3 (n1 (.ld 4 true) (fa 0 (n1 .nilChk (x
 0)))) (n1 (.ld 5 true) (fa 4 (n1 .nilChk (x 0)))) (ld (fa 9 (n1 .nilChk (x 0))))))) (s [(4,n1 .len (x 3))])) (.block 0 (.loop (q (.cond (b .lss (x 5) (x 4))
 .skip (.exit 0)) (q (.block 1 (q (s [(2,ld (n2 (.iAddr 1) (x 3) (x 5)))]) (.cond (b .neq (x 2) (i 0)) (q (s [(1,.cst (.bool false))]) .ret) .skip))) (s [(5,
 b .add (x 5) (i 1))])))))) (q (s [(1,.cst (.bool true))]) .ret))
def wS:CF:=⟨1,6,[(.var 1)],DF,.plain⟩
def Nc:List Nat:=[0,2,4,17,18,19]
def EB:Stm:=
 q (q (h 2 .box (c1 (x 0))) (s [(3,.cst (.slice none 0 0))])) (q (q (cl 7 111 (c1 (n1 (.ld 5 true) (x 2)))) (s [(4,x 7)])) (q (s [(5,.cst (.slice none 0 0))])
 (q (q (s [(6,i 0)]) (.block 0 (.loop (q (.cond (b .lss (x 6) (n1 .len (x 4))) .skip (.exit 0)) (q (.block 1 (q (.hv [(8,x 5)] [] [] (some 9) .callC (c (.cst
 (.func (.func 173) #[] #[])) (c3 (n1 (.ld 3 true) (fa 0 (x 2))) (x 1) (ld (n2 (.iAddr 1) (x 4) (x 6)))))) (q (h 10 (.bSl [.int .i64 0] 1 [0]) (c1 (x 9))) (q
 (h 11 (.app 1 [.int .i64 0]) (c2 (x 8) (x 10))) (s [(5,x 11)]))))) (s [(6,b .add (x 6) (i 1))])))))) (q (s [(3,x 5)]) .ret))))
def wU:CF:=⟨2,12,[(.var 3)],EB,.plain⟩
def Ol:List Nat:=[0,1,2,4,5,6,7,9,16,24,25,26]
def FM:Stm:=
 q (q (h 2 .box (c1 (x 0))) (s [(3,.cst (.slice none 0 0))])) (q (q (cl 8 159 (c1 (n1 (.ld 3 true) (x 2)))) (s [(4,x 8)])) (q (q (h 9 (.mkSl [.int .i64 0]) (c2
 (x 1) (x 1))) (s [(5,x 9)])) (q (s [(6,i 1)]) (q (q (s [(7,b .sub (x 1) (i 1))]) (.block 0 (.loop (q (.cond (b .geq (x 7) (i 0)) .skip (.exit 0)) (q
 (.block 1 (q (.hv [] [] [] none (.st 1) (c2 (n2 (.iAddr 1) (x 5) (x 7)) (x 6))) (q (cl 10 69 (c3 (n1 (.ld 3 true) (x 2)) (x 6) (x 4))) (s [(6,x 10)])))) (s
 [(7,b .sub (x 7) (i 1))])))))) (q (s [(3,x 5)]) .ret)))))
def uX:CF:=⟨2,11,[(.var 3)],FM,.plain⟩
def Mw:List Nat:=[0,1,2,4,5,6,7,8,10,12,26]
def GM:Stm:=
 q (q (h 2 .box (c1 (x 0))) (s [(4,i 0),(3,.cst (.slice none 0 0))])) (q (q (h 14 (.bSl [.int .i64 0] 1 [0]) (c1 (i 1))) (q (h 15 (.bSl [.int .i64 0] 1 [0])
 (c1 (i 1))) (s [(6,x 15),(5,x 14)]))) (q (s [(9,i 1),(8,i 1),(7,i 0)]) (q (q (s [(10,i 0)]) (.block 0 (.loop (q (.cond (b .lss (x 10) (n1 .len (x
 1))) .skip (.exit 0)) (q (.block 1 (q (s [(11,i 0)]) (q (q (s [(12,i 0)]) (.block 2 (.loop (q (.cond (b .leq (x 12) (x 7)) .skip (.exit 2)) (q (.block 3 (q
 (.hv [(20,ld (n2 (.iAddr 1) (x 1) (b .sub (x 10) (x 12)))),(18,n1 (.ld 3 true) (x 2)),(17,x 11),(16,n1 (.ld 3 true) (x 2))] [] [] (some 19) (.call
 true) (c3 (.cst (.func (.func 174) #[] #[])) (x 5) (x 12))) (q (h 21 (.call true) (c (.cst (.func (.func 69) #[] #[])) (c3 (x 18) (x 19) (x 20)))) (q (h 22
 .callC (c (.cst (.func (.func 67) #[] #[])) (c3 (x 16) (x 17) (x 21)))) (s [(11,x 22)]))))) (s [(12,b .add (x 12) (i 1))])))))) (q (.cond (b .eql (x 11) (i
 0)) (q (s [(8,b .add (x 8) (i 1))]) (.exit 1)) .skip) (q (q (.hv [(30,x 8),(27,x 11),(26,n1 (.ld 3 true) (x 2)),(25,x 6),(24,x 5),(23,n1 (.ld 3
 true) (x 2))] [] [] (some 28) (.call true) (c3 (.cst (.func (.func 126) #[] #[])) (n1 (.ld 3 true) (x 2)) (x 9))) (q (h 29 (.call true) (c (.cst (.func (.func
 69) #[] #[])) (c3 (x 26) (x 27) (x 28)))) (q (h 31 .callC (c (.cst (.func (.func 175) #[] #[])) (c (x 23) (c (x 24) (c3 (x 25) (x 29) (x 30)))))) (s [(13,x
 31)])))) (q (.cond (b .leq (b .mul (i 2) (x 7)) (x 10)) (q (s [(6,x 5)]) (q (s [(7,b .sub (b .add (x 10) (i 1)) (x 7))]) (q (s [(9,x 11)]) (s [(8,i
 1)])))) (s [(8,b .add (x 8) (i 1))])) (s [(5,x 13)]))))))) (s [(10,b .add (x 10) (i 1))])))))) (q (.block 4 (.loop (q (.cond (b .eql (ld (n2 (.iAddr 1) (x
 5) (b .sub (n1 .len (x 5)) (i 1)))) (i 0)) .skip (.exit 4)) (.block 5 (s [(5,n2 (.sl 1 false true false) (x 5) (b .sub (n1 .len (x 5)) (i 1)))]))))) (q (s
 [(4,x 7),(3,x 5)]) .ret)))))
def ue:CF:=⟨2,32,[(.var 3),(.var 4)],GM,.plain⟩
def Nf:List Nat:=[0,1,2,4,5,6,7,8,9,10,11,12,13,14,15,16,28,29,30,33,39,40,41,46,47,48,49,50,53,54,55,56]
def CI:Stm:=
 q (q (h 3 .box (c1 (x 0))) (s [(4,i 0)])) (q (s [(5,i 0)]) (q (q (s [(6,b .sub (n1 .len (x 1)) (i 1))]) (.block 0 (.loop (q (.cond (b .geq (x 6) (i 0)) .skip
 (.exit 0)) (q (.block 1 (q (.hv [(9,ld (n2 (.iAddr 1) (x 1) (x 6))),(7,n1 (.ld 3 true) (x 3))] [] [] (some 8) (.call true) (c (.cst (.func (.func 69) #[]
 #[])) (c3 (n1 (.ld 3 true) (x 3)) (x 5) (x 2)))) (q (h 10 .callC (c (.cst (.func (.func 67) #[] #[])) (c3 (x 7) (x 8) (x 9)))) (s [(5,x 10)])))) (s [(6,b
 .sub (x 6) (i 1))])))))) (q (s [(4,x 5)]) .ret)))
def vy:CF:=⟨3,11,[(.var 4)],CI,.plain⟩
def Md:List Nat:=[0,1,2,3,6,7,8,16,20,24,25]
def Fe:Stm:=
 q (q (h 2 .box (c1 (x 0))) (s [(3,i 0)])) (q (q (cl 4 160 (c3 (n1 (.ld 3 true) (x 2)) (x 1) (b .sub (ld (fa 1 (x 2))) (i 2)))) (s [(3,x 4)])) .ret)
def wz:CF:=⟨2,5,[(.var 3)],Fe,.plain⟩
def Rn:List Nat:=[0,1,2,4,10]
def CR:Stm:=
 q (q (h 4 .box (c1 (x 0))) (s [(5,.cst (.slice none 0 0))])) (q (q (h 14 (.bSl [.int .i64 0] 1 [0]) (c1 (i 1))) (s [(6,x 14)])) (q (q (s [(7,i 0)]) (.block 0
 (.loop (q (.cond (b .lss (x 7) (n1 .len (x 2))) .skip (.exit 0)) (q (.block 1 (q (.hv [(19,b .add (n1 .len (x 6)) (i 1)),(16,x 6),(15,n1 (.ld 3 true) (x
 4))] [] [] (some 17) (.call true) (c (.cst (.func (.func 68) #[] #[])) (c3 (n1 (.ld 3 true) (x 4)) (i 0) (ld (n2 (.iAddr 1) (x 2) (x 7)))))) (q (h 18 (.bSl
 [.int .i64 0] 2 [0,1]) (c2 (i 1) (x 17))) (q (h 20 .callC (c (.cst (.func (.func 112) #[] #[])) (c (x 15) (c3 (x 16) (x 18) (x 19))))) (s [(6,x 20)]))))) (s
 [(7,b .add (x 7) (i 1))])))))) (q (q (cl 21 112 (c (n1 (.ld 3 true) (x 4)) (c3 (x 1) (x 6) (n1 .len (x 1))))) (s [(8,x 21)])) (q (s [(9,.cst (.slice none 0
 0))]) (q (q (s [(10,i 0)]) (.block 2 (.loop (q (.cond (b .lss (x 10) (n1 .len (x 2))) .skip (.exit 2)) (q (.block 3 (q (q (h 22 .callC (c3 (.cst (.func
 (.func 126) #[] #[])) (n1 (.ld 3 true) (x 4)) (ld (n2 (.iAddr 1) (x 2) (x 10))))) (s [(11,x 22)])) (q (q (h 23 .callC (c (.cst (.func (.func 160) #[] #[]))
 (c3 (n1 (.ld 3 true) (x 4)) (ld (n2 (.iAddr 1) (x 2) (x 10))) (x 3)))) (s [(12,x 23)])) (q (q (s [(13,i 0)]) (.block 4 (.loop (q (.cond (b .lss (x 13) (n1
 .len (x 2))) .skip (.exit 4)) (q (.block 5 (.cond (b .neq (x 13) (x 10)) (q (.hv [(26,n1 (.ld 3 true) (x 4)),(25,x 12),(24,n1 (.ld 3 true) (x 4))] [] []
 (some 27) (.call true) (c (.cst (.func (.func 69) #[] #[])) (c3 (n1 (.ld 3 true) (x 4)) (ld (n2 (.iAddr 1) (x 2) (x 13))) (x 11)))) (q (h 28 (.call true) (c
 (.cst (.func (.func 68) #[] #[])) (c3 (x 26) (i 1) (x 27)))) (q (h 29 .callC (c (.cst (.func (.func 69) #[] #[])) (c3 (x 24) (x 25) (x 28)))) (s [(12,x
 29)])))) .skip)) (s [(13,b .add (x 13) (i 1))])))))) (q (.hv [(34,x 12),(33,n1 (.ld 3 true) (x 4)),(31,n1 (.ld 3 true) (x 4)),(30,x 9)] [] [] (some
 32) (.call true) (c (.cst (.func (.func 125) #[] #[])) (c3 (n1 (.ld 3 true) (x 4)) (x 8) (x 11)))) (q (h 35 (.call true) (c3 (.cst (.func (.func 126) #[]
 #[])) (x 33) (x 34))) (q (h 36 .callC (c (.cst (.func (.func 69) #[] #[])) (c3 (x 31) (x 32) (x 35)))) (q (h 37 (.bSl [.int .i64 0] 1 [0]) (c1 (x 36))) (q (h
 38 (.app 1 [.int .i64 0]) (c2 (x 30) (x 37))) (s [(9,x 38)])))))))))) (s [(10,b .add (x 10) (i 1))])))))) (q (s [(5,x 9)]) .ret))))))
def xH:CF:=⟨4,39,[(.var 5)],CR,.plain⟩
def Nm:List Nat:=[0,1,2,3,4,8,9,10,11,12,13,14,15,16,17,24,25,31,32,35,36,42,54,61,71,72,73,80,81,82,83,84,88,89,90,91,92,93,94]
def J7:List Nat:=[0,1,4,5,6,7,8,10,11,12,15,19,23,24,28,29,30,33,36]
def KJ:List Nat:=[0,1,2,6,7,9,13,14,15,18,21,30,35,44]
def Js:List Nat:=[0,2]
def KK:List Nat:=[0,1,4,5,6,7,8,18,30,33,38,45]
def Jy:List Nat:=[0,1,2,3]
def KC:List Nat:=[0,1,2,3,8,9]
def Ja:List Nat:=[0,1,2,6]
def Jw:List Nat:=[0,1,2,3]
def JY:List Nat:=[0,2,3,37,41,45,46]
def JZ:List Nat:=[0,1,4,5,6,7,8,9,11,12,13,16,17,18,19,26,27,52,60,64,66,67]
def Jp:List Nat:=[0,2,3,4,5,6,7,8,11,22,34,35,39,44,48,51,52]
def J2:List Nat:=[0,2,3,4,5,7,10,11,12,13,20,21,24,28,30,31,32]
def Ji:List Nat:=[0,2,3,4,5,6,7,8,87,91,94,95]
def FJ:Stm:=
 q (s [(1,.cst (.bool false))]) (q (q (s [(2,i 2)]) (.block 0 (.loop (q (.cond (b .leq (b .mul (x 2) (x 2)) (x 0)) .skip (.exit 0)) (q (.block 1 (.cond (b .eql
 (b .rem (x 0) (x 2)) (i 0)) (q (s [(1,.cst (.bool false))]) .ret) .skip)) (s [(2,b .add (x 2) (i 1))])))))) (q (s [(1,.cst (.bool true))]) .ret))
def vF:CF:=⟨1,3,[(.var 1)],FJ,.plain⟩
def Rl:List Nat:=[0,2,3]
def GP:Stm:=
 q (s [(1,i 0)]) (q (q (cl 2 189 (c1 (n1 (.cvt .u64) (x 0)))) (s [(1,b .sub (x 2) (i 1))])) .ret)
def u7:CF:=⟨1,3,[(.var 1)],GP,.plain⟩
def N0:List Nat:=[0,2,5]
def C8:Stm:=
 q (s [(1,.cst (.bool false))]) (q (q (s [(2,i 2)]) (.block 0 (.loop (q (q (cl 3 149 (c1 (x 2))) (q (.hv [(4,b .mul (i 2) (x 3))] [] [] (some 5) (.call false)
 (c2 (.cst (.func (.func 149) #[] #[])) (x 0))) (.cond (b .leq (x 4) (x 5)) .skip (.exit 0)))) (q (.block 1 (q (cl 6 190 (c2 (x 0) (x 2))) (.cond (b .eql (x 6)
 (i 0)) (q (s [(1,.cst (.bool false))]) .ret) .skip))) (s [(2,b .add (x 2) (i 1))])))))) (q (s [(1,.cst (.bool true))]) .ret))
def u6:CF:=⟨1,7,[(.var 1)],C8,.plain⟩
def OO:List Nat:=[0,2,3,5,6,8,14]
def EN:Stm:=
 q (q (h 2 .box (c1 (x 0))) (s [(3,.cst (.bool false))])) (q (q (s [(7,i 0),(6,n1 .len (x 1)),(5,x 1)]) (.block 0 (.loop (q (.cond (b .lss (x 7) (x 6))
 .skip (.exit 0)) (q (.block 1 (q (s [(4,ld (n2 (.iAddr 1) (x 5) (x 7)))]) (.cond (p (b .lss (x 4) (i 0)) (.cst (.bool true)) (b .geq (x 4) (ld (fa 1 (x
 2))))) (q (s [(3,.cst (.bool false))]) .ret) .skip))) (s [(7,b .add (x 7) (i 1))])))))) (q (s [(3,.cst (.bool true))]) .ret))
def vA:CF:=⟨2,8,[(.var 3)],EN,.plain⟩
def Ph:List Nat:=[0,1,2,4,6,7,8,9]
def Ea:Stm:=
 q (q (h 4 .box (c1 (x 0))) (s [(5,.cst (.slice none 0 0))])) (q (q (h 9 (.mkSl [.int .i64 0]) (c2 (b .add (n1 .len (x 1)) (i 1)) (b .add (n1 .len (x 1)) (i
 1)))) (s [(6,x 9)])) (q (.hv [] [] [] none (.st 1) (c2 (n2 (.iAddr 1) (x 6) (i 0)) (x 3))) (q (q (s [(12,i 0),(11,n1 .len (x 1)),(10,x 1)]) (.block 0
 (.loop (q (.cond (b .lss (x 12) (x 11)) .skip (.exit 0)) (q (.block 1 (q (s [(8,ld (n2 (.iAddr 1) (x 10) (x 12))),(7,x 12)]) (q (q (.hv [(16,ld (n2
 (.iAddr 1) (x 6) (x 7))),(15,n1 (.ld 4 true) (x 4)),(14,x 7),(13,x 6)] [] [] (some 17) (.call true) (c (.cst (.func (.func 155) #[] #[])) (c3 (n1 (.ld 4
 true) (x 4)) (x 8) (x 2)))) (q (h 18 .callC (c (.cst (.func (.func 154) #[] #[])) (c3 (x 15) (x 16) (x 17)))) (.hv [] [] [] none (.st 1) (c2 (n2 (.iAddr 1) (x
 13) (x 14)) (x 18))))) (.hv [] [] [] none (.st 1) (c2 (n2 (.iAddr 1) (x 6) (b .add (x 7) (i 1))) (x 8)))))) (s [(12,b .add (x 12) (i 1))])))))) (q (s [(5,x
 6)]) .ret))))
def wK:CF:=⟨4,19,[(.var 5)],Ea,.plain⟩
def R7:List Nat:=[0,1,2,3,4,8,9,10,11,15,19,20,21,26,27,28,32,36,37]
def CP:Stm:=
 q (q (h 3 .box (c1 (x 0))) (s [(4,i 0)])) (q (.cond (b .eql (x 1) (i 0)) (q (s [(4,i 0)]) .ret) .skip) (q (s [(4,ld (n2 (.iAddr 1) (ld (fa 2 (x 3))) (b .rem
 (b .sub (b .add (b .sub (ld (n2 (.iAddr 1) (ld (fa 3 (x 3))) (x 1))) (ld (n2 (.iAddr 1) (ld (fa 3 (x 3))) (x 2)))) (ld (fa 1 (x 3)))) (i 1)) (b .sub (ld (fa 1
 (x 3))) (i 1)))))]) .ret))
def wm:CF:=⟨3,5,[(.var 4)],CP,.plain⟩
def QV:List Nat:=[0,1,2,3,6]
def Cu:Stm:=
 q (q (h 3 .box (c1 (x 0))) (s [(4,i 0)])) (q (.cond (b .eql (ld (fa 0 (x 3))) (i 2)) (q (s [(4,b .xor (x 1) (x 2))]) .ret) .skip) (q (s [(4,b .rem (b .add (b
 .sub (x 1) (x 2)) (ld (fa 1 (x 3)))) (ld (fa 1 (x 3))))]) .ret))
def wP:CF:=⟨3,5,[(.var 4)],Cu,.plain⟩
def NV:List Nat:=[0,1,2,3,6]
def Ey:Stm:=
 q (q (h 3 .box (c1 (x 0))) (s [(4,i 0)])) (q (.cond (p (b .eql (x 1) (i 0)) (.cst (.bool true)) (b .eql (x 2) (i 0))) (q (s [(4,i 0)]) .ret) .skip) (q (s [(4,
 ld (n2 (.iAddr 1) (ld (fa 2 (x 3))) (b .rem (b .add (ld (n2 (.iAddr 1) (ld (fa 3 (x 3))) (x 1))) (ld (n2 (.iAddr 1) (ld (fa 3 (x 3))) (x 2)))) (b .sub (ld (fa
 1 (x 3))) (i 1)))))]) .ret))
def v3:CF:=⟨3,5,[(.var 4)],Ey,.plain⟩
def O7:List Nat:=[0,1,2,3,6]
def zM:Stm:=
 q (s [(1,i 0)]) (q (s [(2,i (-1))]) (q (.block 0 (.loop (q (.cond (b .gtr (x 0) (i 0)) .skip (.exit 0)) (.block 1 (q (s [(0,b .quo (x 0) (i 2))]) (s [(2,b
 .add (x 2) (i 1))])))))) (q (s [(1,x 2)]) .ret)))
def sW:CF:=⟨1,3,[(.var 1)],zM,.plain⟩
def Qm:List Nat:=[0,2,3]
def Cb:Stm:=
 q (s [(2,.cst (.bool false))]) (q (q (.hv [(4,b .lss (x 0) (i 0))] [] [(b .lss (x 0) (i 0),false)] (some 5) (.call false) (c2 (.cst (.func (.func 156) #[]
 #[])) (x 0))) (.cond (p (x 4) (.cst (.bool true)) (b .neq (x 5) (x 1))) (q (s [(2,.cst (.bool false))]) .ret) .skip)) (q (q (s [(3,i 2)]) (.block 0 (.loop
 (q (q (cl 6 156 (c1 (x 3))) (.cond (b .leq (b .mul (i 2) (x 6)) (x 1)) .skip (.exit 0))) (q (.block 1 (q (cl 7 113 (c2 (x 0) (x 3))) (.cond (b .eql (x 7) (i
 0)) (q (s [(2,.cst (.bool false))]) .ret) .skip))) (s [(3,b .add (x 3) (i 1))])))))) (q (s [(2,.cst (.bool true))]) .ret)))
def vU:CF:=⟨2,8,[(.var 2)],Cb,.plain⟩
def OD:List Nat:=[0,1,4,5,8,10,15,23]
def CU:Stm:=
 q (s [(1,.cst (.bool false))]) (q (q (s [(2,i 2)]) (.block 0 (.loop (q (.cond (b .leq (b .mul (x 2) (x 2)) (x 0)) .skip (.exit 0)) (q (.block 1 (.cond (b .eql
 (b .rem (x 0) (x 2)) (i 0)) (q (s [(1,.cst (.bool false))]) .ret) .skip)) (s [(2,b .add (x 2) (i 1))])))))) (q (s [(1,b .geq (x 0) (i 2))]) .ret))
def wG:CF:=⟨1,3,[(.var 1)],CU,.plain⟩
def Q0:List Nat:=[0,2,3]
def GV:Stm:=
 q (q (h 1 .box (c1 (x 0))) (s [(2,i 0)])) (q (q (s [(3,i 1)]) (.block 0 (.loop (q (.cond (b .lss (x 3) (ld (fa 1 (x 1)))) .skip (.exit 0)) (q (.block 1 (q
 (.hv [(5,b .sub (ld (fa 1 (x 1))) (i 1))] [] [] (some 4) (.call true) (c3 (.cst (.func (.func 191) #[] #[])) (n1 (.ld 3 true) (x 1)) (x 3))) (.cond (b .eql
 (x 4) (x 5)) (q (s [(2,x 3)]) .ret) .skip))) (s [(3,b .add (x 3) (i 1))])))))) (q (s [(2,i 0)]) .ret))
def ub:CF:=⟨1,6,[(.var 2)],GV,.plain⟩
def Pk:List Nat:=[0,1,2,3,12,15]
def Fv:Stm:=
 q (q (h 3 .box (c1 (x 0))) (s [(4,i 0)])) (q (s [(5,i 1)]) (q (.block 0 (.loop (q (.cond (b .gtr (x 2) (i 0)) .skip (.exit 0)) (.block 1 (q (.cond (b .eql (b
 .rem (x 2) (i 2)) (i 1)) (q (cl 6 69 (c3 (n1 (.ld 3 true) (x 3)) (x 5) (x 1))) (s [(5,x 6)])) .skip) (q (q (cl 7 69 (c3 (n1 (.ld 3 true) (x 3)) (x 1) (x 1)))
 (s [(1,x 7)])) (s [(2,b .quo (x 2) (i 2))]))))))) (q (s [(4,x 5)]) .ret)))
def wQ:CF:=⟨3,8,[(.var 4)],Fv,.plain⟩
def NQ:List Nat:=[0,1,2,3,6,7,16,20]
def Fi:Stm:=
 q (q (h 1 .box (c1 (x 0))) (s [(2,i 0)])) (q (s [(3,i 1)]) (q (.block 0 (.loop (q (q (.hv [(5,b .sub (ld (fa 1 (x 1))) (i 1))] [] [] (some 4) (.call true)
 (c3 (.cst (.func (.func 192) #[] #[])) (n1 (.ld 3 true) (x 1)) (x 3))) (.cond (b .neq (x 4) (x 5)) .skip (.exit 0))) (.block 1 (s [(3,b .add (x 3) (i
 1))]))))) (q (s [(2,x 3)]) .ret)))
def wO:CF:=⟨1,6,[(.var 2)],Fi,.plain⟩
def Q8:List Nat:=[0,1,2,3,6,9]
def DO:Stm:=
 q (q (h 3 .box (c1 (x 0))) (s [(4,i 0)])) (q (.cond (b .eql (ld (fa 2 (x 3))) (i 0)) (q (s [(4,b .rem (b .mul (x 1) (x 2)) (ld (fa 1 (x 3))))]) .ret) .skip)
 (q (s [(5,i 0)]) (q (.block 0 (.loop (q (.cond (b .gtr (x 2) (i 0)) .skip (.exit 0)) (q (.block 1 (q (.cond (b .eql (b .and (x 2) (i 1)) (i 1)) (s [(5,b
 .xor (x 5) (x 1))]) .skip) (q (s [(1,b .shl (x 1) (.cst (.int .u64 1)))]) (.cond (b .geq (x 1) (ld (fa 1 (x 3)))) (s [(1,b .xor (x 1) (ld (fa 2 (x 3))))])
 .skip)))) (s [(2,b .shr (x 2) (.cst (.int .u64 1)))]))))) (q (s [(4,x 5)]) .ret))))
def vX:CF:=⟨3,6,[(.var 4)],DO,.plain⟩
def NY:List Nat:=[0,1,2,3,6,7]
def C7:Stm:=
 q (q (h 3 .box (c1 (x 0))) (q (h 4 .box (c1 (x 1))) (s [(5,.cst (.slice none 0 0))]))) (q (q (h 10 (.mkSl [.int .i64 0]) (c2 (ld (fa 3 (x 4))) (ld (fa 3 (x
 4))))) (s [(6,x 10)])) (q (q (s [(12,i 0),(11,n1 .len (x 6))]) (.block 0 (.loop (q (.cond (b .lss (x 12) (x 11)) .skip (.exit 0)) (q (.block 1 (q (s [(7,
 x 12)]) (q (q (cl 13 103 (c2 (n1 (.ld 4 true) (x 3)) (b .add (ld (fa 4 (x 4))) (x 7)))) (s [(8,x 13)])) (q (s [(16,i 0),(15,n1 .len (x 2)),(14,x 2)])
 (.block 2 (.loop (q (.cond (b .lss (x 16) (x 15)) .skip (.exit 2)) (q (.block 3 (q (s [(9,ld (n2 (.iAddr 1) (x 14) (x 16)))]) (q (.hv [(21,x 9),(19,n1
 (.ld 4 true) (x 3)),(18,x 7),(17,x 6)] [] [] (some 20) (.call true) (c (.cst (.func (.func 170) #[] #[])) (c3 (n1 (.ld 4 true) (x 3)) (ld (n2 (.iAddr 1)
 (x 6) (x 7))) (x 8)))) (q (h 22 .callC (c (.cst (.func (.func 171) #[] #[])) (c3 (x 19) (x 20) (x 21)))) (.hv [] [] [] none (.st 1) (c2 (n2 (.iAddr 1) (x 17)
 (x 18)) (x 22))))))) (s [(16,b .add (x 16) (i 1))]))))))))) (s [(12,b .add (x 12) (i 1))])))))) (q (s [(5,x 6)]) .ret)))
def wY:CF:=⟨3,23,[(.var 5)],C7,.plain⟩
def Oj:List Nat:=[0,1,2,3,4,6,7,8,9,11,14,16,17,25,26,27,28,32,33,34,41,42,43]
def ER:Stm:=
 q (q (h 5 .box (c1 (x 0))) (s [(6,.cst (.slice none 0 0))])) (q (q (h 10 (.mkSl [.int .i64 0]) (c2 (n2 (.minmax true) (n1 .len (x 1)) (b .add (n1 .len (x 2))
 (x 3))) (n2 (.minmax true) (n1 .len (x 1)) (b .add (n1 .len (x 2)) (x 3))))) (s [(7,x 10)])) (q (.hv [] [] [] none (.cpy 1) (c2 (x 7) (x 1))) (q (q (s [(13,
 i 0),(12,n1 .len (x 2)),(11,x 2)]) (.block 0 (.loop (q (.cond (b .lss (x 13) (x 12)) .skip (.exit 0)) (q (.block 1 (q (s [(9,ld (n2 (.iAddr 1) (x 11) (x
 13))),(8,x 13)]) (q (.hv [(17,ld (n2 (.iAddr 1) (x 7) (b .add (x 8) (x 3)))),(16,n1 (.ld 4 true) (x 5)),(15,b .add (x 8) (x 3)),(14,x 7)] [] [] (some
 18) (.call true) (c (.cst (.func (.func 170) #[] #[])) (c3 (n1 (.ld 4 true) (x 5)) (x 4) (x 9)))) (q (h 19 .callC (c (.cst (.func (.func 193) #[] #[])) (c3 (x
 16) (x 17) (x 18)))) (.hv [] [] [] none (.st 1) (c2 (n2 (.iAddr 1) (x 14) (x 15)) (x 19))))))) (s [(13,b .add (x 13) (i 1))])))))) (q (s [(6,x 7)]) .ret))))
def x3:CF:=⟨5,20,[(.var 6)],ER,.plain⟩
def N3:List Nat:=[0,1,2,3,4,5,10,11,12,13,21,25,26,27,32,35,36,42,46,47]
def D0:Stm:=
 q (s [(2,i 0)]) (q (s [(2,b .sub (b .sub (n1 .len (ld (fa 9 (n1 .nilChk (x 0))))) (i 1)) (x 1))]) .ret)
def uu:CF:=⟨2,3,[(.var 2)],D0,.plain⟩
def Mo:List Nat:=[0,1,4]
def EE:Stm:=
 q (q (h 4 .box (c1 (x 0))) (s [(5,.cst (.slice none 0 0))])) (q (q (h 10 (.mkSl [.int .i64 0]) (c2 (x 3) (x 3))) (s [(6,x 10)])) (q (q (s [(13,i 0),(12,n1
 .len (x 1)),(11,x 1)]) (.block 0 (.loop (q (.cond (b .lss (x 13) (x 12)) .skip (.exit 0)) (q (.block 1 (q (s [(8,ld (n2 (.iAddr 1) (x 11) (x 13))),(7,x
 13)]) (q (s [(9,i 0)]) (.block 2 (.loop (q (.cond (p (b .lss (x 9) (n1 .len (x 2))) (b .lss (b .add (x 7) (x 9)) (x 3)) (.cst (.bool false))) .skip (.exit
 2)) (q (.block 3 (q (.hv [(17,ld (n2 (.iAddr 1) (x 6) (b .add (x 7) (x 9)))),(16,n1 (.ld 4 true) (x 4)),(15,b .add (x 7) (x 9)),(14,x 6)] [] [] (some
 18) (.call true) (c (.cst (.func (.func 170) #[] #[])) (c3 (n1 (.ld 4 true) (x 4)) (x 8) (ld (n2 (.iAddr 1) (x 2) (x 9)))))) (q (h 19 .callC (c (.cst (.func
 (.func 171) #[] #[])) (c3 (x 16) (x 17) (x 18)))) (.hv [] [] [] none (.st 1) (c2 (n2 (.iAddr 1) (x 14) (x 15)) (x 19)))))) (s [(9,b .add (x 9) (i
 1))])))))))) (s [(13,b .add (x 13) (i 1))])))))) (q (s [(5,x 6)]) .ret)))
def w8:CF:=⟨4,20,[(.var 5)],EE,.plain⟩
def Pn:List Nat:=[0,1,2,3,4,8,9,10,11,12,14,15,16,17,35,38,39,45,52,53]
def FR:Stm:=
 q (q (h 2 .box (c1 (x 0))) (s [(3,.cst (.slice none 0 0))])) (q (q (h 14 (.bSl [.int .i64 0] 1 [0]) (c1 (i 1))) (q (h 15 (.bSl [.int .i64 0] 1 [0]) (c1 (i 1)))
 (s [(5,x 15),(4,x 14)]))) (q (s [(8,i 1),(7,i 1),(6,i 0)]) (q (q (s [(17,i 0),(16,n1 .len (x 1))]) (.block 0 (.loop (q (.cond (b .lss (x 17) (x
 16)) .skip (.exit 0)) (q (.block 1 (q (s [(9,x 17)]) (q (s [(10,i 0)]) (q (q (s [(11,i 0)]) (.block 2 (.loop (q (.cond (p (b .leq (x 11) (x 6)) (b .lss (x
 11) (n1 .len (x 4))) (.cst (.bool false))) .skip (.exit 2)) (q (.block 3 (q (.hv [(19,x 10),(18,n1 (.ld 4 true) (x 2))] [] [] (some 20) (.call true) (c
 (.cst (.func (.func 170) #[] #[])) (c3 (n1 (.ld 4 true) (x 2)) (ld (n2 (.iAddr 1) (x 4) (x 11))) (ld (n2 (.iAddr 1) (x 1) (b .sub (x 9) (x 11))))))) (q (h 21
 .callC (c (.cst (.func (.func 171) #[] #[])) (c3 (x 18) (x 19) (x 20)))) (s [(10,x 21)])))) (s [(11,b .add (x 11) (i 1))])))))) (q (.cond (b .eql (x 10) (i
 0)) (q (s [(7,b .add (x 7) (i 1))]) (.exit 1)) .skip) (q (q (.hv [(25,x 7),(24,x 5),(23,x 4),(22,n1 (.ld 4 true) (x 2))] [] [] (some 26) (.call true)
 (c (.cst (.func (.func 172) #[] #[])) (c3 (n1 (.ld 4 true) (x 2)) (x 10) (x 8)))) (q (h 27 .callC (c (.cst (.func (.func 164) #[] #[])) (c (x 22) (c (x 23)
 (c3 (x 24) (x 25) (x 26)))))) (s [(12,x 27)]))) (q (.cond (b .leq (b .mul (i 2) (x 6)) (x 9)) (s [(7,i 1),(8,x 10),(6,b .sub (b .add (x 9) (i 1)) (x
 6)),(5,x 4)]) (s [(7,b .add (x 7) (i 1))])) (s [(4,x 12)])))))))) (s [(17,b .add (x 17) (i 1))])))))) (q (s [(13,n1 .len (x 4))]) (q (.block 4 (.loop (q
 (.cond (b .eql (ld (n2 (.iAddr 1) (x 4) (b .sub (x 13) (i 1)))) (i 0)) .skip (.exit 4)) (.block 5 (s [(13,b .sub (x 13) (i 1))]))))) (q (s [(3,n2 (.sl 1
 false true false) (x 4) (x 13))]) .ret))))))
def wa:CF:=⟨2,28,[(.var 3)],FR,.plain⟩
def Pp:List Nat:=[0,1,2,4,5,6,7,8,9,10,11,12,13,14,15,16,18,19,33,34,46,47,52,53,54,55,59,60]
def Gh:Stm:=
 q (q (h 3 .box (c1 (x 0))) (s [(4,i 0)])) (q (s [(5,i 0)]) (q (q (s [(6,b .sub (n1 .len (x 1)) (i 1))]) (.block 0 (.loop (q (.cond (b .geq (x 6) (i 0)) .skip
 (.exit 0)) (q (.block 1 (q (.hv [(9,ld (n2 (.iAddr 1) (x 1) (x 6))),(7,n1 (.ld 4 true) (x 3))] [] [] (some 8) (.call true) (c (.cst (.func (.func 170) #[]
 #[])) (c3 (n1 (.ld 4 true) (x 3)) (x 5) (x 2)))) (q (h 10 .callC (c (.cst (.func (.func 171) #[] #[])) (c3 (x 7) (x 8) (x 9)))) (s [(5,x 10)])))) (s [(6,b
 .sub (x 6) (i 1))])))))) (q (s [(4,x 5)]) .ret)))
def w7:CF:=⟨3,11,[(.var 4)],Gh,.plain⟩
def RU:List Nat:=[0,1,2,3,6,7,8,16,20,24,25]
def EC:Stm:=
 q (q (h 2 .box (c1 (x 0))) (s [(3,.cst (.slice none 0 0))])) (q (s [(4,.cst (.slice none 0 0))]) (q (q (s [(5,i 1)]) (.block 0 (.loop (q (.cond (b .lss (x 5)
 (n1 .len (x 1))) .skip (.exit 0)) (q (.block 1 (q (.hv [(6,x 4)] [] [] (some 7) .callC (c (.cst (.func (.func 170) #[] #[])) (c3 (n1 (.ld 4 true) (x 2)) (b
 .rem (x 5) (ld (fa 0 (x 2)))) (ld (n2 (.iAddr 1) (x 1) (x 5)))))) (q (h 8 (.bSl [.int .i64 0] 1 [0]) (c1 (x 7))) (q (h 9 (.app 1 [.int .i64 0]) (c2 (x 6) (x
 8))) (s [(4,x 9)]))))) (s [(5,b .add (x 5) (i 1))])))))) (q (s [(3,x 4)]) .ret)))
def wH:CF:=⟨2,10,[(.var 3)],EC,.plain⟩
def P2:List Nat:=[0,1,2,4,5,6,13,23,24,25]
def FC:Stm:=
 q (q (h 3 .box (c1 (x 0))) (s [(4,i 0)])) (q (.cond (p (b .eql (x 1) (i 0)) (.cst (.bool true)) (b .eql (x 2) (i 0))) (q (s [(4,i 0)]) .ret) .skip) (q (s [(4,
 ld (n2 (.iAddr 1) (ld (fa 2 (x 3))) (b .rem (b .add (ld (n2 (.iAddr 1) (ld (fa 3 (x 3))) (x 1))) (ld (n2 (.iAddr 1) (ld (fa 3 (x 3))) (x 2)))) (b .sub (ld (fa
 1 (x 3))) (i 1)))))]) .ret))
def uq:CF:=⟨3,5,[(.var 4)],FC,.plain⟩
def QN:List Nat:=[0,1,2,3,6]
def Ck:Stm:=
 q (q (h 3 .box (c1 (x 0))) (s [(4,i 0)])) (q (.cond (b .eql (ld (fa 0 (x 3))) (i 2)) (q (s [(4,b .xor (x 1) (x 2))]) .ret) .skip) (q (s [(4,b .rem (b .add (x
 1) (x 2)) (ld (fa 1 (x 3))))]) .ret))
def v9:CF:=⟨3,5,[(.var 4)],Ck,.plain⟩
def R4:List Nat:=[0,1,2,3,6]
def EY:Stm:=
 q (q (h 3 .box (c1 (x 0))) (s [(4,i 0)])) (q (.cond (b .eql (x 1) (i 0)) (q (s [(4,i 0)]) .ret) .skip) (q (s [(4,ld (n2 (.iAddr 1) (ld (fa 2 (x 3))) (b .rem
 (b .sub (b .add (b .sub (ld (n2 (.iAddr 1) (ld (fa 3 (x 3))) (x 1))) (ld (n2 (.iAddr 1) (ld (fa 3 (x 3))) (x 2)))) (ld (fa 1 (x 3)))) (i 1)) (b .sub (ld (fa 1
 (x 3))) (i 1)))))]) .ret))
def uw:CF:=⟨3,5,[(.var 4)],EY,.plain⟩
def QW:List Nat:=[0,1,2,3,6]
def DV:Stm:=
 q (q (h 3 .box (c1 (x 0))) (s [(4,i 0)])) (q (s [(5,i 0)]) (q (q (s [(6,i 0)]) (.block 0 (.loop (q (.cond (b .lss (x 6) (n1 .len (x 1))) .skip (.exit 0)) (q
 (.block 1 (q (.hv [(9,ld (n2 (.iAddr 1) (x 1) (x 6))),(7,n1 (.ld 3 true) (x 3))] [] [] (some 8) (.call true) (c (.cst (.func (.func 69) #[] #[])) (c3 (n1
 (.ld 3 true) (x 3)) (x 5) (x 2)))) (q (h 10 .callC (c (.cst (.func (.func 67) #[] #[])) (c3 (x 7) (x 8) (x 9)))) (s [(5,x 10)])))) (s [(6,b .add (x 6) (i
 1))])))))) (q (s [(4,x 5)]) .ret)))
def xY:CF:=⟨3,11,[(.var 4)],DV,.plain⟩
def Mn:List Nat:=[0,1,2,3,6,7,8,15,19,23,24]
def Di:Stm:=
 q (s [(2,i 0)]) (q (.cond (b .lss (x 1) (n1 .len (x 0))) (q (s [(2,ld (n2 (.iAddr 1) (x 0) (x 1)))]) .ret) .skip) (q (s [(2,i 0)]) .ret))
def xW:CF:=⟨2,3,[(.var 2)],Di,.plain⟩
def Mk:List Nat:=[0,1,4]
def Eu:Stm:=
 q (q (h 5 .box (c1 (x 0))) (s [(6,.cst (.slice none 0 0))])) (q (q (h 10 (.mkSl [.int .i64 0]) (c2 (n2 (.minmax true) (n1 .len (x 1)) (b .add (n1 .len (x 2))
 (x 4))) (n2 (.minmax true) (n1 .len (x 1)) (b .add (n1 .len (x 2)) (x 4))))) (s [(7,x 10)])) (q (q (s [(8,i 0)]) (.block 0 (.loop (q (.cond (b .lss (x 8)
 (n1 .len (x 7))) .skip (.exit 0)) (q (.block 1 (q (s [(9,i 0)]) (q (.cond (b .geq (x 8) (x 4)) (q (.hv [(12,x 3),(11,n1 (.ld 3 true) (x 5))] [] [] (some
 13) (.call true) (c3 (.cst (.func (.func 174) #[] #[])) (x 2) (b .sub (x 8) (x 4)))) (q (h 14 .callC (c (.cst (.func (.func 69) #[] #[])) (c3 (x 11) (x 12) (x
 13)))) (s [(9,x 14)]))) .skip) (q (.hv [(19,x 9),(17,n1 (.ld 3 true) (x 5)),(16,x 8),(15,x 7)] [] [] (some 18) (.call true) (c3 (.cst (.func (.func
 174) #[] #[])) (x 1) (x 8))) (q (h 20 .callC (c (.cst (.func (.func 68) #[] #[])) (c3 (x 17) (x 18) (x 19)))) (.hv [] [] [] none (.st 1) (c2 (n2 (.iAddr 1) (x
 15) (x 16)) (x 20)))))))) (s [(8,b .add (x 8) (i 1))])))))) (q (s [(6,x 7)]) .ret)))
def xM:CF:=⟨5,21,[(.var 6)],Eu,.plain⟩
def OP:List Nat:=[0,1,2,3,4,5,10,11,12,13,21,31,32,37,38,39,40,41,44,45,46]
def J5:List Nat:=[0,1,2,6,12,20,28,34,37]
def Jq:List Nat:=[0,1,3,4,6,17]
def Jf:List Nat:=[0,1,4,5,6,7,8,9,10,11,26]
def KD:List Nat:=[0,1,4,5,6,7,8,9,15,25]
def Jx:List Nat:=[0,1,2,4,6,7,8,9,11,12]
def J3:List Nat:=[0,2,3,4,5]
def Jv:List Nat:=[0,1,2,6,7,8]
def KA:List Nat:=[0,2,3,4,24,29]
def KI:List Nat:=[0,2]
def Et:Stm:=
 q (q (s [(1,i 0)]) (.cond (.cst (.bool false)) (q (q (cl 2 203 (c1 (n1 (.cvt .u32) (x 0)))) (s [(1,x 2)])) .ret) .skip)) (q (q (cl 3 204 (c1 (x 0))) (s [(1,x
 3)])) .ret)
def uz:CF:=⟨1,4,[(.var 1)],Et,.plain⟩
def Px:List Nat:=[0,2,5,7]
def GL:Stm:=
 q (s [(2,i 0)]) (q (.block 0 (.loop (q (q (cl 3 149 (c1 (x 0))) (q (cl 4 149 (c1 (x 1))) (.cond (b .geq (x 3) (x 4)) .skip (.exit 0)))) (.block 1 (q (.hv [(6,
 x 1),(5,x 0)] [] [] (some 7) (.call false) (c2 (.cst (.func (.func 149) #[] #[])) (x 0))) (q (cl 8 149 (c1 (x 1))) (s [(0,b .xor (x 5) (b .shl (x 6) (b
 .sub (x 7) (x 8))))]))))))) (q (s [(2,x 0)]) .ret))
def vN:CF:=⟨2,9,[(.var 2)],GL,.plain⟩
def Rr:List Nat:=[0,1,4,6,8,10,11,13,15]
def CT:Stm:=
 q (q (h 2 .box (c1 (x 0))) (s [(3,i 0)])) (q (s [(5,x 1),(4,i 1)]) (q (.block 0 (.loop (q (.cond (p (b .neq (x 5) (i 1)) (b .lss (x 4) (ld (fa 1 (x 2))))
 (.cst (.bool false))) .skip (.exit 0)) (.block 1 (q (q (cl 6 69 (c3 (n1 (.ld 3 true) (x 2)) (x 5) (x 1))) (s [(5,x 6)])) (s [(4,b .add (x 4) (i 1))]))))))
 (q (s [(3,x 4)]) .ret)))
def xZ:CF:=⟨2,7,[(.var 3)],CT,.plain⟩
def Qy:List Nat:=[0,1,2,4,5,6,19]
def E8:Stm:=
 q (q (h 2 .box (c1 (x 0))) (s [(3,i 0)])) (q (s [(4,i 1)]) (q (q (s [(5,x 1)]) (.block 0 (.loop (q (.cond (b .neq (x 5) (i 1)) .skip (.exit 0)) (q (.block 1
 (s [(4,b .add (x 4) (i 1))])) (q (cl 6 162 (c3 (n1 (.ld 3 true) (x 2)) (x 5) (x 1))) (s [(5,x 6)]))))))) (q (s [(3,x 4)]) .ret)))
def vu:CF:=⟨2,7,[(.var 3)],E8,.plain⟩
def QH:List Nat:=[0,1,2,4,5,6,13]
def EP:Stm:=
 q (q (h 3 .box (c1 (x 0))) (s [(4,i 0)])) (q (.cond (b .eql (ld (fa 0 (x 3))) (i 2)) (q (s [(4,b .xor (x 1) (x 2))]) .ret) .skip) (q (s [(4,b .rem (b .add (b
 .sub (x 1) (x 2)) (ld (fa 1 (x 3)))) (ld (fa 1 (x 3))))]) .ret))
def vm:CF:=⟨3,5,[(.var 4)],EP,.plain⟩
def Qz:List Nat:=[0,1,2,3,6]
def Jj:List Nat:=[0,1,4,5,6,7,8,21,38,45,46,47,54,55,59,63,65,69,80,87,88,89,92,93,94]
def JR:List Nat:=[0,1,2,3,4,10,11,12,14,16,18,19,23,29,33,34,35,38,43,44,45,48,53,54,55,58,69,80,81,82]
def J8:List Nat:=[0,1,4,5,6,7,11,21,24,34,42,51,52,53]
def JW:List Nat:=[0,1,4,5,6,7,8,9,12,21,22,23,57,61,62,63]
def Jo:List Nat:=[0,1,2]
def KG:List Nat:=[0,1,4,5,6,8,10]
def Jt:List Nat:=[0,1,4,5,6]
def Jg:List Nat:=[0,1,4,5,6,7,8,9,10,11,12,13]
def Jh:List Nat:=[0,2]
def D4:Stm:=
 q (s [(1,i 0)]) (q (.cond (b .geq (x 0) (.cst (.int .u64 4294967296))) (q (s [(0,b .shr (x 0) (.cst (.int .u64 32)))]) (s [(1,i 32)])) .skip) (q (.cond (b
 .geq (x 0) (.cst (.int .u64 65536))) (q (s [(0,b .shr (x 0) (.cst (.int .u64 16)))]) (s [(1,b .add (x 1) (i 16))])) .skip) (q (.cond (b .geq (x 0) (.cst
 (.int .u64 256))) (q (s [(0,b .shr (x 0) (.cst (.int .u64 8)))]) (s [(1,b .add (x 1) (i 8))])) .skip) (q (s [(1,b .add (x 1) (n1 (.cvt .i64) (n2 .idxS
 (.cst (.string I4)) (n1 (.cvt .u8) (x 0)))))]) .ret))))
def xP:CF:=⟨1,2,[(.var 1)],D4,.plain⟩
def P1:List Nat:=[0,2]
def Jr:List Nat:=[0,2]
def Jz:List Nat:=[0,1,4,5,6,7,29,42,45,46,47,48]
def KF:List Nat:=[0,1,2,4,6,7,8,9,10,11,15,18,28,29,51,65,72,73,82,87,88]
def JP:List Nat:=[0,1,2,3,4,10,11]
def Je:List Nat:=[0,2]
def KN:List Nat:=[0,1,2,3,8]
def KE:List Nat:=[0,2]
def Ju:List Nat:=[0,1,4,5,6,7,8]
end
theorem is4:aB Tryz.prog tr4 4=some cf4:=by kernel_rfl
theorem U2:aB Tryz.prog Sc 12=some Ge:=by kernel_rfl
theorem Tp:aB Tryz.prog VB 13=some F8:=by kernel_rfl
theorem VZ:aB Tryz.prog VH 15=some Dm:=by kernel_rfl
theorem V9:aB Tryz.prog SZ 16=some GH:=by kernel_rfl
theorem UB:aB Tryz.prog V4 17=some E3:=by kernel_rfl
theorem U1:aB Tryz.prog Tj 18=some Dp:=by kernel_rfl
theorem Sn:aB Tryz.prog VQ 21=some DZ:=by kernel_rfl
theorem Te:(aB Tryz.prog QY 26).all aF=true:=by kernel_rfl
theorem Sf:aB Tryz.prog Tf 27=some CC:=by kernel_rfl
theorem Tr:aB Tryz.prog U3 28=some Em:=by kernel_rfl
theorem Tv:aB Tryz.prog TJ 29=some Gd:=by kernel_rfl
theorem UR:aB Tryz.prog TH 30=some GJ:=by kernel_rfl
theorem VX:aB Tryz.prog Tq 31=some Cz:=by kernel_rfl
theorem US:aB Tryz.prog UU 32=some Dx:=by kernel_rfl
theorem TE:aB Tryz.prog SQ 34=some F6:=by kernel_rfl
theorem VO:aB Tryz.prog UD 35=some G8:=by kernel_rfl
theorem Th:aB Tryz.prog Uk 36=some Gi:=by kernel_rfl
theorem VU:aB Tryz.prog Uw 37=some EU:=by kernel_rfl
theorem SS:(aB Tryz.prog R2 38).all aF=true:=by kernel_rfl
theorem V0:(aB Tryz.prog PY 39).all aF=true:=by kernel_rfl
theorem SK:(aB Tryz.prog Rx 40).all aF=true:=by kernel_rfl
theorem T8:(aB Tryz.prog Nx 41).all aF=true:=by kernel_rfl
theorem T6:(aB Tryz.prog PD 45).all aF=true:=by kernel_rfl
theorem UJ:(aB Tryz.prog Qt 46).all aF=true:=by kernel_rfl
theorem TV:(aB Tryz.prog PA 53).all aF=true:=by kernel_rfl
theorem TS:aB Tryz.prog TC 54=some GX:=by kernel_rfl
theorem TG:(aB Tryz.prog Qp 55).all aF=true:=by kernel_rfl
theorem Ut:aB Tryz.prog S8 56=some Gr:=by kernel_rfl
theorem Sp:aB Tryz.prog Uy 57=some Gt:=by kernel_rfl
theorem SL:aB Tryz.prog Tc 58=some GN:=by kernel_rfl
theorem UP:aB Tryz.prog Ta 59=some E9:=by kernel_rfl
theorem U5:aB Tryz.prog UY 60=some Cq:=by kernel_rfl
theorem Ss:aB Tryz.prog V3 61=some E4:=by kernel_rfl
theorem V6:aB Tryz.prog TD 62=some BH:=by kernel_rfl
theorem Td:aB Tryz.prog SU 63=some D5:=by kernel_rfl
theorem VJ:aB Tryz.prog VY 64=some Cf:=by kernel_rfl
theorem UN:aB Tryz.prog Sm 65=some GD:=by kernel_rfl
theorem SN:aB Tryz.prog TF 67=some Eh:=by kernel_rfl
theorem Sy:aB Tryz.prog TA 68=some CD:=by kernel_rfl
theorem UL:aB Tryz.prog Ur 69=some EK:=by kernel_rfl
theorem Sd:aB Tryz.prog VA 70=some G0:=by kernel_rfl
theorem So:aB Tryz.prog Ux 71=some EL:=by kernel_rfl
theorem Tz:aB Tryz.prog SI 72=some GR:=by kernel_rfl
theorem Tk:aB Tryz.prog Ul 73=some F5:=by kernel_rfl
theorem TB:aB Tryz.prog U7 74=some rJ:=by kernel_rfl
theorem Sa:(aB Tryz.prog Rb 75).all aF=true:=by kernel_rfl
theorem SV:(aB Tryz.prog RF 76).all aF=true:=by kernel_rfl
theorem UG:(aB Tryz.prog Mf 77).all aF=true:=by kernel_rfl
theorem U6:(aB Tryz.prog RC 78).all aF=true:=by kernel_rfl
theorem Sg:(aB Tryz.prog OM 79).all aF=true:=by kernel_rfl
theorem VM:(aB Tryz.prog OH 80).all aF=true:=by kernel_rfl
theorem Tn:(aB Tryz.prog Qk 86).all aF=true:=by kernel_rfl
theorem Ug:(aB Tryz.prog R1 87).all aF=true:=by kernel_rfl
theorem Us:(aB Tryz.prog OX 88).all aF=true:=by kernel_rfl
theorem Sr:(aB Tryz.prog PZ 89).all aF=true:=by kernel_rfl
theorem V7:aB Tryz.prog T7 99=some EW:=by kernel_rfl
theorem Na:aB Tryz.prog Og 100=some vz:=by kernel_rfl
theorem Ps:aB Tryz.prog QE 101=some xU:=by kernel_rfl
theorem Q3:aB Tryz.prog Ny 102=some xV:=by kernel_rfl
theorem Qn:aB Tryz.prog N1 103=some wF:=by kernel_rfl
theorem NU:aB Tryz.prog Nt 104=some uY:=by kernel_rfl
theorem P4:aB Tryz.prog Mx 105=some rZ:=by kernel_rfl
theorem PR:aB Tryz.prog Qu 106=some w5:=by kernel_rfl
theorem RQ:aB Tryz.prog O8 107=some vW:=by kernel_rfl
theorem Qw:aB Tryz.prog Pu 108=some vB:=by kernel_rfl
theorem Ra:aB Tryz.prog Ro 109=some vV:=by kernel_rfl
theorem OA:aB Tryz.prog RI 110=some vY:=by kernel_rfl
theorem Om:aB Tryz.prog NP 111=some vh:=by kernel_rfl
theorem OT:aB Tryz.prog My 112=some xF:=by kernel_rfl
theorem RD:aB Tryz.prog Qx 113=some ui:=by kernel_rfl
theorem RZ:aB Tryz.prog RK 114=some wV:=by kernel_rfl
theorem SC:aB Tryz.prog RB 115=some uf:=by kernel_rfl
theorem R8:aB Tryz.prog Q7 116=some wo:=by kernel_rfl
theorem Ml:aB Tryz.prog Ql 117=some vk:=by kernel_rfl
theorem Mm:aB Tryz.prog NN 118=some wh:=by kernel_rfl
theorem Me:aB Tryz.prog P0 119=some uh:=by kernel_rfl
theorem PG:aB Tryz.prog O0 120=some uv:=by kernel_rfl
theorem NJ:aB Tryz.prog Nc 121=some wS:=by kernel_rfl
theorem Rw:aB Tryz.prog Ol 122=some wU:=by kernel_rfl
theorem OL:aB Tryz.prog Mw 123=some uX:=by kernel_rfl
theorem O2:aB Tryz.prog Nf 124=some ue:=by kernel_rfl
theorem OY:aB Tryz.prog Md 125=some vy:=by kernel_rfl
theorem R9:aB Tryz.prog Rn 126=some wz:=by kernel_rfl
theorem PV:aB Tryz.prog Nm 127=some xH:=by kernel_rfl
theorem QO:(aB Tryz.prog J7 128).all aF=true:=by kernel_rfl
theorem QU:(aB Tryz.prog KJ 129).all aF=true:=by kernel_rfl
theorem N4:(aB Tryz.prog Js 130).all aF=true:=by kernel_rfl
theorem P3:(aB Tryz.prog KK 131).all aF=true:=by kernel_rfl
theorem PQ:(aB Tryz.prog Jy 132).all aF=true:=by kernel_rfl
theorem ND:(aB Tryz.prog KC 133).all aF=true:=by kernel_rfl
theorem Qe:(aB Tryz.prog Ja 134).all aF=true:=by kernel_rfl
theorem NL:(aB Tryz.prog Jw 135).all aF=true:=by kernel_rfl
theorem NW:(aB Tryz.prog JY 138).all aF=true:=by kernel_rfl
theorem OS:(aB Tryz.prog JZ 139).all aF=true:=by kernel_rfl
theorem Nh:(aB Tryz.prog Jp 140).all aF=true:=by kernel_rfl
theorem NK:(aB Tryz.prog J2 141).all aF=true:=by kernel_rfl
theorem Nz:(aB Tryz.prog Ji 142).all aF=true:=by kernel_rfl
theorem P8:aB Tryz.prog Rl 148=some vF:=by kernel_rfl
theorem N7:aB Tryz.prog N0 149=some u7:=by kernel_rfl
theorem OB:aB Tryz.prog OO 150=some u6:=by kernel_rfl
theorem QX:aB Tryz.prog Ph 151=some vA:=by kernel_rfl
theorem NC:aB Tryz.prog R7 152=some wK:=by kernel_rfl
theorem Qs:aB Tryz.prog QV 153=some wm:=by kernel_rfl
theorem PX:aB Tryz.prog NV 154=some wP:=by kernel_rfl
theorem Pl:aB Tryz.prog O7 155=some v3:=by kernel_rfl
theorem Oz:aB Tryz.prog Qm 156=some sW:=by kernel_rfl
theorem RJ:aB Tryz.prog OD 157=some vU:=by kernel_rfl
theorem Pa:aB Tryz.prog Q0 158=some wG:=by kernel_rfl
theorem N5:aB Tryz.prog Pk 159=some ub:=by kernel_rfl
theorem O9:aB Tryz.prog NQ 160=some wQ:=by kernel_rfl
theorem Rm:aB Tryz.prog Q8 161=some wO:=by kernel_rfl
theorem Q9:aB Tryz.prog NY 162=some vX:=by kernel_rfl
theorem NT:aB Tryz.prog Oj 163=some wY:=by kernel_rfl
theorem R0:aB Tryz.prog N3 164=some x3:=by kernel_rfl
theorem Rs:aB Tryz.prog Mo 165=some uu:=by kernel_rfl
theorem Rq:aB Tryz.prog Pn 166=some w8:=by kernel_rfl
theorem Nw:aB Tryz.prog Pp 167=some wa:=by kernel_rfl
theorem Pc:aB Tryz.prog RU 168=some w7:=by kernel_rfl
theorem Rt:aB Tryz.prog P2 169=some wH:=by kernel_rfl
theorem NO:aB Tryz.prog QN 170=some uq:=by kernel_rfl
theorem OV:aB Tryz.prog R4 171=some v9:=by kernel_rfl
theorem QB:aB Tryz.prog QW 172=some uw:=by kernel_rfl
theorem Re:aB Tryz.prog Mn 173=some xY:=by kernel_rfl
theorem PU:aB Tryz.prog Mk 174=some xW:=by kernel_rfl
theorem Ow:aB Tryz.prog OP 175=some xM:=by kernel_rfl
theorem RL:(aB Tryz.prog J5 176).all aF=true:=by kernel_rfl
theorem NI:(aB Tryz.prog Jq 177).all aF=true:=by kernel_rfl
theorem PN:(aB Tryz.prog Jf 178).all aF=true:=by kernel_rfl
theorem QI:(aB Tryz.prog KD 179).all aF=true:=by kernel_rfl
theorem Q5:(aB Tryz.prog Jx 180).all aF=true:=by kernel_rfl
theorem Rc:(aB Tryz.prog J3 182).all aF=true:=by kernel_rfl
theorem NB:(aB Tryz.prog Jv 183).all aF=true:=by kernel_rfl
theorem ON:(aB Tryz.prog KA 184).all aF=true:=by kernel_rfl
theorem Of:(aB Tryz.prog KI 185).all aF=true:=by kernel_rfl
theorem QK:aB Tryz.prog Px 189=some uz:=by kernel_rfl
theorem PB:aB Tryz.prog Rr 190=some vN:=by kernel_rfl
theorem Ou:aB Tryz.prog Qy 191=some xZ:=by kernel_rfl
theorem PL:aB Tryz.prog QH 192=some vu:=by kernel_rfl
theorem Rv:aB Tryz.prog Qz 193=some vm:=by kernel_rfl
theorem RA:(aB Tryz.prog Jj 194).all aF=true:=by kernel_rfl
theorem OF:(aB Tryz.prog JR 195).all aF=true:=by kernel_rfl
theorem Nn:(aB Tryz.prog J8 196).all aF=true:=by kernel_rfl
theorem RR:(aB Tryz.prog JW 197).all aF=true:=by kernel_rfl
theorem R3:(aB Tryz.prog Jo 198).all aF=true:=by kernel_rfl
theorem O6:(aB Tryz.prog KG 199).all aF=true:=by kernel_rfl
theorem No:(aB Tryz.prog Jt 200).all aF=true:=by kernel_rfl
theorem NS:(aB Tryz.prog Jg 201).all aF=true:=by kernel_rfl
theorem Mt:(aB Tryz.prog Jh 203).all aF=true:=by kernel_rfl
theorem Oe:aB Tryz.prog P1 204=some xP:=by kernel_rfl
theorem Qq:(aB Tryz.prog Jr 205).all aF=true:=by kernel_rfl
theorem Mj:(aB Tryz.prog Jz 206).all aF=true:=by kernel_rfl
theorem N8:(aB Tryz.prog KF 207).all aF=true:=by kernel_rfl
theorem SA:(aB Tryz.prog JP 208).all aF=true:=by kernel_rfl
theorem Pm:(aB Tryz.prog Je 209).all aF=true:=by kernel_rfl
theorem Qg:(aB Tryz.prog KN 210).all aF=true:=by kernel_rfl
theorem Nr:(aB Tryz.prog KE 211).all aF=true:=by kernel_rfl
theorem Qb:(aB Tryz.prog Ju 212).all aF=true:=by kernel_rfl
noncomputable def Ci:FuncId→Option CF
 | 4=>some cf4
 | 12=>some Ge
 | 13=>some F8
 | 15=>some Dm
 | _=>none
theorem yG(f:FuncId)(cf:CF)(h:Ci f=some cf):∃t,aB Tryz.prog t f=some cf:=by
 unfold Ci at h
 split at h
 ·cases h;exact⟨_,is4⟩
 ·cases h;exact⟨_,U2⟩
 ·cases h;exact⟨_,Tp⟩
 ·cases h;exact⟨_,VZ⟩
 ·simp at h
noncomputable def Cy:FuncId→Option CF
 | 16=>some GH
 | 17=>some E3
 | 18=>some Dp
 | 21=>some DZ
 | 26=>aB Tryz.prog QY 26
 | 27=>some CC
 | 28=>some Em
 | 29=>some Gd
 | 30=>some GJ
 | 31=>some Cz
 | _=>none
theorem yi(f:FuncId)(cf:CF)(h:Cy f=some cf):∃t,aB Tryz.prog t f=some cf:=by
 unfold Cy at h
 split at h
 ·cases h;exact⟨_,V9⟩
 ·cases h;exact⟨_,UB⟩
 ·cases h;exact⟨_,U1⟩
 ·cases h;exact⟨_,Sn⟩
 ·exact⟨_,h⟩
 ·cases h;exact⟨_,Sf⟩
 ·cases h;exact⟨_,Tr⟩
 ·cases h;exact⟨_,Tv⟩
 ·cases h;exact⟨_,UR⟩
 ·cases h;exact⟨_,VX⟩
 ·simp at h
noncomputable def Cd:FuncId→Option CF
 | 32=>some Dx
 | 34=>some F6
 | 35=>some G8
 | 36=>some Gi
 | 37=>some EU
 | 38=>aB Tryz.prog R2 38
 | 39=>aB Tryz.prog PY 39
 | 40=>aB Tryz.prog Rx 40
 | 41=>aB Tryz.prog Nx 41
 | 45=>aB Tryz.prog PD 45
 | 46=>aB Tryz.prog Qt 46
 | _=>none
theorem xx(f:FuncId)(cf:CF)(h:Cd f=some cf):∃t,aB Tryz.prog t f=some cf:=by
 unfold Cd at h
 split at h
 ·cases h;exact⟨_,US⟩
 ·cases h;exact⟨_,TE⟩
 ·cases h;exact⟨_,VO⟩
 ·cases h;exact⟨_,Th⟩
 ·cases h;exact⟨_,VU⟩
 ·exact⟨_,h⟩
 ·exact⟨_,h⟩
 ·exact⟨_,h⟩
 ·exact⟨_,h⟩
 ·exact⟨_,h⟩
 ·exact⟨_,h⟩
 ·simp at h
noncomputable def E0:FuncId→Option CF
 | 53=>aB Tryz.prog PA 53
 | 54=>some GX
 | 55=>aB Tryz.prog Qp 55
 | 56=>some Gr
 | 57=>some Gt
 | 58=>some GN
 | 59=>some E9
 | 60=>some Cq
 | 61=>some E4
 | 62=>some BH
 | 63=>some D5
 | _=>none
theorem yh(f:FuncId)(cf:CF)(h:E0 f=some cf):∃t,aB Tryz.prog t f=some cf:=by
 unfold E0 at h
 split at h
 ·exact⟨_,h⟩
 ·cases h;exact⟨_,TS⟩
 ·exact⟨_,h⟩
 ·cases h;exact⟨_,Ut⟩
 ·cases h;exact⟨_,Sp⟩
 ·cases h;exact⟨_,SL⟩
 ·cases h;exact⟨_,UP⟩
 ·cases h;exact⟨_,U5⟩
 ·cases h;exact⟨_,Ss⟩
 ·cases h;exact⟨_,V6⟩
 ·cases h;exact⟨_,Td⟩
 ·simp at h
noncomputable def FF:FuncId→Option CF
 | 64=>some Cf
 | 65=>some GD
 | 67=>some Eh
 | 68=>some CD
 | 69=>some EK
 | 70=>some G0
 | 71=>some EL
 | 72=>some GR
 | 73=>some F5
 | 74=>some rJ
 | 75=>aB Tryz.prog Rb 75
 | 76=>aB Tryz.prog RF 76
 | 77=>aB Tryz.prog Mf 77
 | 78=>aB Tryz.prog RC 78
 | 79=>aB Tryz.prog OM 79
 | _=>none
theorem y5(f:FuncId)(cf:CF)(h:FF f=some cf):∃t,aB Tryz.prog t f=some cf:=by
 unfold FF at h
 split at h
 ·cases h;exact⟨_,VJ⟩
 ·cases h;exact⟨_,UN⟩
 ·cases h;exact⟨_,SN⟩
 ·cases h;exact⟨_,Sy⟩
 ·cases h;exact⟨_,UL⟩
 ·cases h;exact⟨_,Sd⟩
 ·cases h;exact⟨_,So⟩
 ·cases h;exact⟨_,Tz⟩
 ·cases h;exact⟨_,Tk⟩
 ·cases h;exact⟨_,TB⟩
 ·exact⟨_,h⟩
 ·exact⟨_,h⟩
 ·exact⟨_,h⟩
 ·exact⟨_,h⟩
 ·exact⟨_,h⟩
 ·simp at h
noncomputable def C9:FuncId→Option CF
 | 80=>aB Tryz.prog OH 80
 | 86=>aB Tryz.prog Qk 86
 | 87=>aB Tryz.prog R1 87
 | 88=>aB Tryz.prog OX 88
 | 89=>aB Tryz.prog PZ 89
 | _=>none
theorem yu(f:FuncId)(cf:CF)(h:C9 f=some cf):∃t,aB Tryz.prog t f=some cf:=by
 unfold C9 at h
 split at h
 ·exact⟨_,h⟩
 ·exact⟨_,h⟩
 ·exact⟨_,h⟩
 ·exact⟨_,h⟩
 ·exact⟨_,h⟩
 ·simp at h
noncomputable def Dt:FuncId→Option CF
 | 99=>some EW
 | 100=>some vz
 | 101=>some xU
 | 102=>some xV
 | 103=>some wF
 | 104=>some uY
 | 105=>some rZ
 | 106=>some w5
 | 107=>some vW
 | 108=>some vB
 | 109=>some vV
 | 110=>some vY
 | 111=>some vh
 | _=>none
theorem yJ(f:FuncId)(cf:CF)(h:Dt f=some cf):∃t,aB Tryz.prog t f=some cf:=by
 unfold Dt at h
 split at h
 ·cases h;exact⟨_,V7⟩
 ·cases h;exact⟨_,Na⟩
 ·cases h;exact⟨_,Ps⟩
 ·cases h;exact⟨_,Q3⟩
 ·cases h;exact⟨_,Qn⟩
 ·cases h;exact⟨_,NU⟩
 ·cases h;exact⟨_,P4⟩
 ·cases h;exact⟨_,PR⟩
 ·cases h;exact⟨_,RQ⟩
 ·cases h;exact⟨_,Qw⟩
 ·cases h;exact⟨_,Ra⟩
 ·cases h;exact⟨_,OA⟩
 ·cases h;exact⟨_,Om⟩
 ·simp at h
noncomputable def DW:FuncId→Option CF
 | 112=>some xF
 | 113=>some ui
 | 114=>some wV
 | 115=>some uf
 | 116=>some wo
 | 117=>some vk
 | 118=>some wh
 | 119=>some uh
 | 120=>some uv
 | 121=>some wS
 | 122=>some wU
 | 123=>some uX
 | 124=>some ue
 | 125=>some vy
 | 126=>some wz
 | 127=>some xH
 | _=>none
theorem yl(f:FuncId)(cf:CF)(h:DW f=some cf):∃t,aB Tryz.prog t f=some cf:=by
 unfold DW at h
 split at h
 ·cases h;exact⟨_,OT⟩
 ·cases h;exact⟨_,RD⟩
 ·cases h;exact⟨_,RZ⟩
 ·cases h;exact⟨_,SC⟩
 ·cases h;exact⟨_,R8⟩
 ·cases h;exact⟨_,Ml⟩
 ·cases h;exact⟨_,Mm⟩
 ·cases h;exact⟨_,Me⟩
 ·cases h;exact⟨_,PG⟩
 ·cases h;exact⟨_,NJ⟩
 ·cases h;exact⟨_,Rw⟩
 ·cases h;exact⟨_,OL⟩
 ·cases h;exact⟨_,O2⟩
 ·cases h;exact⟨_,OY⟩
 ·cases h;exact⟨_,R9⟩
 ·cases h;exact⟨_,PV⟩
 ·simp at h
noncomputable def GO:FuncId→Option CF
 | 128=>aB Tryz.prog J7 128
 | 129=>aB Tryz.prog KJ 129
 | 130=>aB Tryz.prog Js 130
 | 131=>aB Tryz.prog KK 131
 | 132=>aB Tryz.prog Jy 132
 | 133=>aB Tryz.prog KC 133
 | 134=>aB Tryz.prog Ja 134
 | 135=>aB Tryz.prog Jw 135
 | 138=>aB Tryz.prog JY 138
 | 139=>aB Tryz.prog JZ 139
 | 140=>aB Tryz.prog Jp 140
 | 141=>aB Tryz.prog J2 141
 | 142=>aB Tryz.prog Ji 142
 | _=>none
theorem y8(f:FuncId)(cf:CF)(h:GO f=some cf):∃t,aB Tryz.prog t f=some cf:=by
 unfold GO at h
 split at h
 ·exact⟨_,h⟩
 ·exact⟨_,h⟩
 ·exact⟨_,h⟩
 ·exact⟨_,h⟩
 ·exact⟨_,h⟩
 ·exact⟨_,h⟩
 ·exact⟨_,h⟩
 ·exact⟨_,h⟩
 ·exact⟨_,h⟩
 ·exact⟨_,h⟩
 ·exact⟨_,h⟩
 ·exact⟨_,h⟩
 ·exact⟨_,h⟩
 ·simp at h
noncomputable def Ff:FuncId→Option CF
 | 148=>some vF
 | 149=>some u7
 | 150=>some u6
 | 151=>some vA
 | 152=>some wK
 | 153=>some wm
 | 154=>some wP
 | 155=>some v3
 | 156=>some sW
 | 157=>some vU
 | 158=>some wG
 | 159=>some ub
 | _=>none
theorem zC(f:FuncId)(cf:CF)(h:Ff f=some cf):∃t,aB Tryz.prog t f=some cf:=by
 unfold Ff at h
 split at h
 ·cases h;exact⟨_,P8⟩
 ·cases h;exact⟨_,N7⟩
 ·cases h;exact⟨_,OB⟩
 ·cases h;exact⟨_,QX⟩
 ·cases h;exact⟨_,NC⟩
 ·cases h;exact⟨_,Qs⟩
 ·cases h;exact⟨_,PX⟩
 ·cases h;exact⟨_,Pl⟩
 ·cases h;exact⟨_,Oz⟩
 ·cases h;exact⟨_,RJ⟩
 ·cases h;exact⟨_,Pa⟩
 ·cases h;exact⟨_,N5⟩
 ·simp at h
noncomputable def wu:FuncId→Option CF
 | 160=>some wQ
 | 161=>some wO
 | 162=>some vX
 | 163=>some wY
 | 164=>some x3
 | 165=>some uu
 | 166=>some w8
 | 167=>some wa
 | 168=>some w7
 | 169=>some wH
 | 170=>some uq
 | 171=>some v9
 | 172=>some uw
 | 173=>some xY
 | 174=>some xW
 | 175=>some xM
 | _=>none
theorem we(f:FuncId)(cf:CF)(h:wu f=some cf):∃t,aB Tryz.prog t f=some cf:=by
 unfold wu at h
 split at h
 ·cases h;exact⟨_,O9⟩
 ·cases h;exact⟨_,Rm⟩
 ·cases h;exact⟨_,Q9⟩
 ·cases h;exact⟨_,NT⟩
 ·cases h;exact⟨_,R0⟩
 ·cases h;exact⟨_,Rs⟩
 ·cases h;exact⟨_,Rq⟩
 ·cases h;exact⟨_,Nw⟩
 ·cases h;exact⟨_,Pc⟩
 ·cases h;exact⟨_,Rt⟩
 ·cases h;exact⟨_,NO⟩
 ·cases h;exact⟨_,OV⟩
 ·cases h;exact⟨_,QB⟩
 ·cases h;exact⟨_,Re⟩
 ·cases h;exact⟨_,PU⟩
 ·cases h;exact⟨_,Ow⟩
 ·simp at h
noncomputable def wk:FuncId→Option CF
 | 176=>aB Tryz.prog J5 176
 | 177=>aB Tryz.prog Jq 177
 | 178=>aB Tryz.prog Jf 178
 | 179=>aB Tryz.prog KD 179
 | 180=>aB Tryz.prog Jx 180
 | 182=>aB Tryz.prog J3 182
 | 183=>aB Tryz.prog Jv 183
 | 184=>aB Tryz.prog KA 184
 | 185=>aB Tryz.prog KI 185
 | 189=>some uz
 | 190=>some vN
 | 191=>some xZ
 | _=>none
theorem ug(f:FuncId)(cf:CF)(h:wk f=some cf):∃t,aB Tryz.prog t f=some cf:=by
 unfold wk at h
 split at h
 ·exact⟨_,h⟩
 ·exact⟨_,h⟩
 ·exact⟨_,h⟩
 ·exact⟨_,h⟩
 ·exact⟨_,h⟩
 ·exact⟨_,h⟩
 ·exact⟨_,h⟩
 ·exact⟨_,h⟩
 ·exact⟨_,h⟩
 ·cases h;exact⟨_,QK⟩
 ·cases h;exact⟨_,PB⟩
 ·cases h;exact⟨_,Ou⟩
 ·simp at h
noncomputable def x7:FuncId→Option CF
 | 192=>some vu
 | 193=>some vm
 | 194=>aB Tryz.prog Jj 194
 | 195=>aB Tryz.prog JR 195
 | 196=>aB Tryz.prog J8 196
 | 197=>aB Tryz.prog JW 197
 | 198=>aB Tryz.prog Jo 198
 | 199=>aB Tryz.prog KG 199
 | 200=>aB Tryz.prog Jt 200
 | 201=>aB Tryz.prog Jg 201
 | 203=>aB Tryz.prog Jh 203
 | 204=>some xP
 | 205=>aB Tryz.prog Jr 205
 | 206=>aB Tryz.prog Jz 206
 | 207=>aB Tryz.prog KF 207
 | _=>none
theorem vC(f:FuncId)(cf:CF)(h:x7 f=some cf):∃t,aB Tryz.prog t f=some cf:=by
 unfold x7 at h
 split at h
 ·cases h;exact⟨_,PL⟩
 ·cases h;exact⟨_,Rv⟩
 ·exact⟨_,h⟩
 ·exact⟨_,h⟩
 ·exact⟨_,h⟩
 ·exact⟨_,h⟩
 ·exact⟨_,h⟩
 ·exact⟨_,h⟩
 ·exact⟨_,h⟩
 ·exact⟨_,h⟩
 ·exact⟨_,h⟩
 ·cases h;exact⟨_,Oe⟩
 ·exact⟨_,h⟩
 ·exact⟨_,h⟩
 ·exact⟨_,h⟩
 ·simp at h
noncomputable def vn:FuncId→Option CF
 | 208=>aB Tryz.prog JP 208
 | 209=>aB Tryz.prog Je 209
 | 210=>aB Tryz.prog KN 210
 | 211=>aB Tryz.prog KE 211
 | 212=>aB Tryz.prog Ju 212
 | _=>none
theorem vD(f:FuncId)(cf:CF)(h:vn f=some cf):∃t,aB Tryz.prog t f=some cf:=by
 unfold vn at h
 split at h
 ·exact⟨_,h⟩
 ·exact⟨_,h⟩
 ·exact⟨_,h⟩
 ·exact⟨_,h⟩
 ·exact⟨_,h⟩
 ·simp at h
theorem Hg(f:FuncId)(cf:CF)(h:Ci f=some cf):aF cf=true:=by
 unfold Ci at h
 split at h
 ·cases h;kernel_rfl
 ·cases h;kernel_rfl
 ·cases h;kernel_rfl
 ·cases h;kernel_rfl
 ·simp at h
theorem IJ(f:FuncId)(cf:CF)(h:Cy f=some cf):aF cf=true:=by
 unfold Cy at h
 split at h
 ·cases h;kernel_rfl
 ·cases h;kernel_rfl
 ·cases h;kernel_rfl
 ·cases h;kernel_rfl
 ·have:=Te;rw[h]at this;exact this
 ·cases h;kernel_rfl
 ·cases h;kernel_rfl
 ·cases h;kernel_rfl
 ·cases h;kernel_rfl
 ·cases h;kernel_rfl
 ·simp at h
theorem HB(f:FuncId)(cf:CF)(h:Cd f=some cf):aF cf=true:=by
 unfold Cd at h
 split at h
 ·cases h;kernel_rfl
 ·cases h;kernel_rfl
 ·cases h;kernel_rfl
 ·cases h;kernel_rfl
 ·cases h;kernel_rfl
 ·have:=SS;rw[h]at this;exact this
 ·have:=V0;rw[h]at this;exact this
 ·have:=SK;rw[h]at this;exact this
 ·have:=T8;rw[h]at this;exact this
 ·have:=T6;rw[h]at this;exact this
 ·have:=UJ;rw[h]at this;exact this
 ·simp at h
theorem Ha(f:FuncId)(cf:CF)(h:E0 f=some cf):aF cf=true:=by
 unfold E0 at h
 split at h
 ·have:=TV;rw[h]at this;exact this
 ·cases h;kernel_rfl
 ·have:=TG;rw[h]at this;exact this
 ·cases h;kernel_rfl
 ·cases h;kernel_rfl
 ·cases h;kernel_rfl
 ·cases h;kernel_rfl
 ·cases h;kernel_rfl
 ·cases h;kernel_rfl
 ·cases h;kernel_rfl
 ·cases h;kernel_rfl
 ·simp at h
theorem Hr(f:FuncId)(cf:CF)(h:FF f=some cf):aF cf=true:=by
 unfold FF at h
 split at h
 ·cases h;kernel_rfl
 ·cases h;kernel_rfl
 ·cases h;kernel_rfl
 ·cases h;kernel_rfl
 ·cases h;kernel_rfl
 ·cases h;kernel_rfl
 ·cases h;kernel_rfl
 ·cases h;kernel_rfl
 ·cases h;kernel_rfl
 ·cases h;kernel_rfl
 ·have:=Sa;rw[h]at this;exact this
 ·have:=SV;rw[h]at this;exact this
 ·have:=UG;rw[h]at this;exact this
 ·have:=U6;rw[h]at this;exact this
 ·have:=Sg;rw[h]at this;exact this
 ·simp at h
theorem Gy(f:FuncId)(cf:CF)(h:C9 f=some cf):aF cf=true:=by
 unfold C9 at h
 split at h
 ·have:=VM;rw[h]at this;exact this
 ·have:=Tn;rw[h]at this;exact this
 ·have:=Ug;rw[h]at this;exact this
 ·have:=Us;rw[h]at this;exact this
 ·have:=Sr;rw[h]at this;exact this
 ·simp at h
theorem Il(f:FuncId)(cf:CF)(h:Dt f=some cf):aF cf=true:=by
 unfold Dt at h
 split at h
 ·cases h;kernel_rfl
 ·cases h;kernel_rfl
 ·cases h;kernel_rfl
 ·cases h;kernel_rfl
 ·cases h;kernel_rfl
 ·cases h;kernel_rfl
 ·cases h;kernel_rfl
 ·cases h;kernel_rfl
 ·cases h;kernel_rfl
 ·cases h;kernel_rfl
 ·cases h;kernel_rfl
 ·cases h;kernel_rfl
 ·cases h;kernel_rfl
 ·simp at h
theorem Hy(f:FuncId)(cf:CF)(h:DW f=some cf):aF cf=true:=by
 unfold DW at h
 split at h
 ·cases h;kernel_rfl
 ·cases h;kernel_rfl
 ·cases h;kernel_rfl
 ·cases h;kernel_rfl
 ·cases h;kernel_rfl
 ·cases h;kernel_rfl
 ·cases h;kernel_rfl
 ·cases h;kernel_rfl
 ·cases h;kernel_rfl
 ·cases h;kernel_rfl
 ·cases h;kernel_rfl
 ·cases h;kernel_rfl
 ·cases h;kernel_rfl
 ·cases h;kernel_rfl
 ·cases h;kernel_rfl
 ·cases h;kernel_rfl
 ·simp at h
theorem IW(f:FuncId)(cf:CF)(h:GO f=some cf):aF cf=true:=by
 unfold GO at h
 split at h
 ·have:=QO;rw[h]at this;exact this
 ·have:=QU;rw[h]at this;exact this
 ·have:=N4;rw[h]at this;exact this
 ·have:=P3;rw[h]at this;exact this
 ·have:=PQ;rw[h]at this;exact this
 ·have:=ND;rw[h]at this;exact this
 ·have:=Qe;rw[h]at this;exact this
 ·have:=NL;rw[h]at this;exact this
 ·have:=NW;rw[h]at this;exact this
 ·have:=OS;rw[h]at this;exact this
 ·have:=Nh;rw[h]at this;exact this
 ·have:=NK;rw[h]at this;exact this
 ·have:=Nz;rw[h]at this;exact this
 ·simp at h
theorem Iz(f:FuncId)(cf:CF)(h:Ff f=some cf):aF cf=true:=by
 unfold Ff at h
 split at h
 ·cases h;kernel_rfl
 ·cases h;kernel_rfl
 ·cases h;kernel_rfl
 ·cases h;kernel_rfl
 ·cases h;kernel_rfl
 ·cases h;kernel_rfl
 ·cases h;kernel_rfl
 ·cases h;kernel_rfl
 ·cases h;kernel_rfl
 ·cases h;kernel_rfl
 ·cases h;kernel_rfl
 ·cases h;kernel_rfl
 ·simp at h
theorem ED(f:FuncId)(cf:CF)(h:wu f=some cf):aF cf=true:=by
 unfold wu at h
 split at h
 ·cases h;kernel_rfl
 ·cases h;kernel_rfl
 ·cases h;kernel_rfl
 ·cases h;kernel_rfl
 ·cases h;kernel_rfl
 ·cases h;kernel_rfl
 ·cases h;kernel_rfl
 ·cases h;kernel_rfl
 ·cases h;kernel_rfl
 ·cases h;kernel_rfl
 ·cases h;kernel_rfl
 ·cases h;kernel_rfl
 ·cases h;kernel_rfl
 ·cases h;kernel_rfl
 ·cases h;kernel_rfl
 ·cases h;kernel_rfl
 ·simp at h
theorem DI(f:FuncId)(cf:CF)(h:wk f=some cf):aF cf=true:=by
 unfold wk at h
 split at h
 ·have:=RL;rw[h]at this;exact this
 ·have:=NI;rw[h]at this;exact this
 ·have:=PN;rw[h]at this;exact this
 ·have:=QI;rw[h]at this;exact this
 ·have:=Q5;rw[h]at this;exact this
 ·have:=Rc;rw[h]at this;exact this
 ·have:=NB;rw[h]at this;exact this
 ·have:=ON;rw[h]at this;exact this
 ·have:=Of;rw[h]at this;exact this
 ·cases h;kernel_rfl
 ·cases h;kernel_rfl
 ·cases h;kernel_rfl
 ·simp at h
theorem F7(f:FuncId)(cf:CF)(h:x7 f=some cf):aF cf=true:=by
 unfold x7 at h
 split at h
 ·cases h;kernel_rfl
 ·cases h;kernel_rfl
 ·have:=RA;rw[h]at this;exact this
 ·have:=OF;rw[h]at this;exact this
 ·have:=Nn;rw[h]at this;exact this
 ·have:=RR;rw[h]at this;exact this
 ·have:=R3;rw[h]at this;exact this
 ·have:=O6;rw[h]at this;exact this
 ·have:=No;rw[h]at this;exact this
 ·have:=NS;rw[h]at this;exact this
 ·have:=Mt;rw[h]at this;exact this
 ·cases h;kernel_rfl
 ·have:=Qq;rw[h]at this;exact this
 ·have:=Mj;rw[h]at this;exact this
 ·have:=N8;rw[h]at this;exact this
 ·simp at h
theorem GS(f:FuncId)(cf:CF)(h:vn f=some cf):aF cf=true:=by
 unfold vn at h
 split at h
 ·have:=SA;rw[h]at this;exact this
 ·have:=Pm;rw[h]at this;exact this
 ·have:=Qg;rw[h]at this;exact this
 ·have:=Nr;rw[h]at this;exact this
 ·have:=Qb;rw[h]at this;exact this
 ·simp at h
noncomputable def cp(f:FuncId):Option CF:=match f/16 with
 | 0=>Ci f
 | 1=>Cy f
 | 2=>Cd f
 | 3=>E0 f
 | 4=>FF f
 | 5=>C9 f
 | 6=>Dt f
 | 7=>DW f
 | 8=>GO f
 | 9=>Ff f
 | 10=>wu f
 | 11=>wk f
 | 12=>x7 f
 | 13=>vn f
 | _=>none
theorem Ft:na Tryz.prog cp:=by
 intro f cf h
 unfold cp at h
 split at h
 ·exact yG f cf h
 ·exact yi f cf h
 ·exact xx f cf h
 ·exact yh f cf h
 ·exact y5 f cf h
 ·exact yu f cf h
 ·exact yJ f cf h
 ·exact yl f cf h
 ·exact y8 f cf h
 ·exact zC f cf h
 ·exact we f cf h
 ·exact ug f cf h
 ·exact vC f cf h
 ·exact vD f cf h
 ·simp at h
theorem eb(f:FuncId)(cf:CF)(h:cp f=some cf):aF cf=true:=by
 unfold cp at h
 split at h
 ·exact Hg f cf h
 ·exact IJ f cf h
 ·exact HB f cf h
 ·exact Ha f cf h
 ·exact Hr f cf h
 ·exact Gy f cf h
 ·exact Il f cf h
 ·exact Hy f cf h
 ·exact IW f cf h
 ·exact Iz f cf h
 ·exact ED f cf h
 ·exact DI f cf h
 ·exact F7 f cf h
 ·exact GS f cf h
 ·simp at h
theorem mixed:Tryz.prog.follows .mixedOrders=true:=by kernel_rfl
theorem PJ(base n:Nat):RunOK Tryz.prog base Tryz.prog.globals.size (run cp n):=sound mixed Ft base n
theorem st4{lo:Nat}{H:Heap}{R:Value→Heap→Prop}{a0 a1:Value}(h:wpS cp lo bd4 (aG cf4 R) [a0,a1,undef,undef,undef,undef,undef,undef,undef,undef,undef,undef,undef,undef,undef,undef,undef] H):Ev cp lo 4 [a0,a1] H R:=aD (cf:=cf4) rfl rfl rfl h
theorem TW{lo:Nat}{H:Heap}{R:Value→Heap→Prop}(h:wpS cp lo K1 (aG Ge R) [undef,undef,undef,undef,undef,undef,undef,undef,undef,undef,undef,undef,undef,undef,undef,undef,undef,undef,undef,undef,undef,undef,undef,undef,undef,undef,undef,undef,undef,undef,undef,undef,undef,undef,undef] H):Ev cp lo 12 [] H R:=aD (cf:=Ge) rfl rfl rfl h
theorem UF{lo:Nat}{H:Heap}{R:Value→Heap→Prop}{a0 a1:Value}(h:wpS cp lo KS (aG F8 R) [a0,a1,undef,undef,undef,undef,undef,undef,undef,undef,undef,undef,undef,undef,undef,undef,undef,undef,undef,undef,undef,undef,undef,undef,undef,undef,undef] H):Ev cp lo 13 [a0,a1] H R:=aD (cf:=F8) rfl rfl rfl h
theorem Sv{lo:Nat}{H:Heap}{R:Value→Heap→Prop}{a0 a1:Value}(h:wpS cp lo KU (aG Dm R) [a0,a1,undef,undef] H):Ev cp lo 15 [a0,a1] H R:=aD (cf:=Dm) rfl rfl rfl h
theorem U8{lo:Nat}{H:Heap}{R:Value→Heap→Prop}{a0 a1:Value}(h:wpS cp lo Lb (aG GH R) [a0,a1,undef,undef,undef,undef,undef,undef,undef,undef,undef,undef,undef,undef,undef,undef,undef,undef,undef,undef,undef,undef,undef,undef,undef,undef,undef,undef,undef,undef,undef,undef] H):Ev cp lo 16 [a0,a1] H R:=aD (cf:=GH) rfl rfl rfl h
theorem Um{lo:Nat}{H:Heap}{R:Value→Heap→Prop}{a0 a1:Value}(h:wpS cp lo Lv (aG E3 R) [a0,a1,undef,undef,undef,undef,undef,undef,undef,undef,undef,undef,undef,undef,undef,undef,undef,undef,undef,undef,undef,undef,undef] H):Ev cp lo 17 [a0,a1] H R:=aD (cf:=E3) rfl rfl rfl h
theorem Ua{lo:Nat}{H:Heap}{R:Value→Heap→Prop}{a0 a1:Value}(h:wpS cp lo Kn (aG Dp R) [a0,a1,undef,undef,undef,undef,undef,undef,undef,undef,undef,undef,undef,undef,undef,undef,undef,undef,undef,undef,undef] H):Ev cp lo 18 [a0,a1] H R:=aD (cf:=Dp) rfl rfl rfl h
theorem U9{lo:Nat}{H:Heap}{R:Value→Heap→Prop}{a0:Value}(h:wpS cp lo Li (aG DZ R) [a0,undef,undef,undef,undef,undef,undef,undef,undef,undef,undef,undef,undef,undef,undef,undef,undef] H):Ev cp lo 21 [a0] H R:=aD (cf:=DZ) rfl rfl rfl h
theorem Sw{lo:Nat}{H:Heap}{R:Value→Heap→Prop}{a0 a1 a2:Value}(h:wpS cp lo Kw (aG CC R) [a0,a1,a2,undef,undef,undef,undef,undef,undef,undef,undef,undef] H):Ev cp lo 27 [a0,a1,a2] H R:=aD (cf:=CC) rfl rfl rfl h
theorem Tb{lo:Nat}{H:Heap}{R:Value→Heap→Prop}{a0:Value}(h:wpS cp lo LH (aG Em R) [a0,undef,undef,undef,undef,undef,undef,undef,undef,undef,undef,undef] H):Ev cp lo 28 [a0] H R:=aD (cf:=Em) rfl rfl rfl h
theorem Ti{lo:Nat}{H:Heap}{R:Value→Heap→Prop}{a0 a1:Value}(h:wpS cp lo MA (aG Gd R) [a0,a1,undef,undef,undef,undef,undef,undef,undef,undef,undef,undef,undef,undef,undef,undef,undef,undef,undef,undef,undef,undef,undef,undef,undef,undef,undef,undef,undef,undef,undef,undef,undef,undef,undef] H):Ev cp lo 29 [a0,a1] H R:=aD (cf:=Gd) rfl rfl rfl h
theorem V8{lo:Nat}{H:Heap}{R:Value→Heap→Prop}{a0 a1 a2:Value}(h:wpS cp lo L4 (aG GJ R) [a0,a1,a2,undef,undef,undef,undef,undef,undef] H):Ev cp lo 30 [a0,a1,a2] H R:=aD (cf:=GJ) rfl rfl rfl h
theorem VP{lo:Nat}{H:Heap}{R:Value→Heap→Prop}{a0:Value}(h:wpS cp lo MH (aG Cz R) [a0,undef,undef,undef,undef,undef] H):Ev cp lo 31 [a0] H R:=aD (cf:=Cz) rfl rfl rfl h
theorem TQ{lo:Nat}{H:Heap}{R:Value→Heap→Prop}{a0:Value}(h:wpS cp lo Ka (aG Dx R) [a0,undef,undef] H):Ev cp lo 32 [a0] H R:=aD (cf:=Dx) rfl rfl rfl h
theorem Sx{lo:Nat}{H:Heap}{R:Value→Heap→Prop}{a0:Value}(h:wpS cp lo Lc (aG F6 R) [a0,undef,undef,undef,undef,undef,undef] H):Ev cp lo 34 [a0] H R:=aD (cf:=F6) rfl rfl rfl h
theorem Sq{lo:Nat}{H:Heap}{R:Value→Heap→Prop}{a0 a1 a2:Value}(h:wpS cp lo Kq (aG G8 R) [a0,a1,a2,undef,undef,undef,undef,undef,undef] H):Ev cp lo 35 [a0,a1,a2] H R:=aD (cf:=G8) rfl rfl rfl h
theorem Se{lo:Nat}{H:Heap}{R:Value→Heap→Prop}{a0 a1 a2:Value}(h:wpS cp lo MO (aG Gi R) [a0,a1,a2,undef,undef,undef,undef,undef,undef,undef,undef,undef,undef,undef,undef,undef,undef,undef,undef,undef,undef,undef,undef,undef,undef,undef,undef,undef,undef,undef,undef,undef] H):Ev cp lo 36 [a0,a1,a2] H R:=aD (cf:=Gi) rfl rfl rfl h
theorem Uu{lo:Nat}{H:Heap}{R:Value→Heap→Prop}{a0 a1 a2:Value}(h:wpS cp lo Le (aG EU R) [a0,a1,a2,undef,undef,undef,undef,undef,undef,undef,undef,undef,undef,undef,undef] H):Ev cp lo 37 [a0,a1,a2] H R:=aD (cf:=EU) rfl rfl rfl h
theorem Tt{lo:Nat}{H:Heap}{R:Value→Heap→Prop}{a0 a1:Value}(h:wpS cp lo LU (aG GX R) [a0,a1,undef,undef,undef] H):Ev cp lo 54 [a0,a1] H R:=aD (cf:=GX) rfl rfl rfl h
theorem Su{lo:Nat}{H:Heap}{R:Value→Heap→Prop}{a0 a1:Value}(h:wpS cp lo Ks (aG Gr R) [a0,a1,undef,undef,undef,undef,undef] H):Ev cp lo 56 [a0,a1] H R:=aD (cf:=Gr) rfl rfl rfl h
theorem TZ{lo:Nat}{H:Heap}{R:Value→Heap→Prop}{a0 a1 a2:Value}(h:wpS cp lo M8 (aG Gt R) [a0,a1,a2,undef,undef,undef,undef,undef] H):Ev cp lo 57 [a0,a1,a2] H R:=aD (cf:=Gt) rfl rfl rfl h
theorem Sb{lo:Nat}{H:Heap}{R:Value→Heap→Prop}{a0 a1:Value}(h:wpS cp lo Kg (aG GN R) [a0,a1,undef,undef,undef,undef,undef,undef,undef] H):Ev cp lo 58 [a0,a1] H R:=aD (cf:=GN) rfl rfl rfl h
theorem Uh{lo:Nat}{H:Heap}{R:Value→Heap→Prop}{a0 a1:Value}(h:wpS cp lo LY (aG E9 R) [a0,a1,undef,undef] H):Ev cp lo 59 [a0,a1] H R:=aD (cf:=E9) rfl rfl rfl h
theorem Uj{lo:Nat}{H:Heap}{R:Value→Heap→Prop}{a0:Value}(h:wpS cp lo Kv (aG Cq R) [a0,undef,undef,undef,undef,undef,undef,undef,undef,undef,undef,undef,undef,undef,undef,undef] H):Ev cp lo 60 [a0] H R:=aD (cf:=Cq) rfl rfl rfl h
theorem Sj{lo:Nat}{H:Heap}{R:Value→Heap→Prop}{a0 a1 a2:Value}(h:wpS cp lo Kd (aG E4 R) [a0,a1,a2,undef,undef,undef,undef,undef,undef,undef,undef,undef] H):Ev cp lo 61 [a0,a1,a2] H R:=aD (cf:=E4) rfl rfl rfl h
theorem PF{lo:Nat}{H:Heap}{R:Value→Heap→Prop}{a0:Value}(h:wpS cp lo IX (aG BH R) [a0,undef,undef,undef] H):Ev cp lo 62 [a0] H R:=aD (cf:=BH) rfl rfl rfl h
theorem Ub{lo:Nat}{H:Heap}{R:Value→Heap→Prop}{a0 a1 a2:Value}(h:wpS cp lo Ky (aG D5 R) [a0,a1,a2,undef,undef,undef,undef,undef,undef] H):Ev cp lo 63 [a0,a1,a2] H R:=aD (cf:=D5) rfl rfl rfl h
theorem Uv{lo:Nat}{H:Heap}{R:Value→Heap→Prop}{a0:Value}(h:wpS cp lo Km (aG Cf R) [a0,undef,undef,undef,undef] H):Ev cp lo 64 [a0] H R:=aD (cf:=Cf) rfl rfl rfl h
theorem SJ{lo:Nat}{H:Heap}{R:Value→Heap→Prop}{a0 a1:Value}(h:wpS cp lo M0 (aG GD R) [a0,a1,undef,undef,undef,undef] H):Ev cp lo 65 [a0,a1] H R:=aD (cf:=GD) rfl rfl rfl h
theorem VC{lo:Nat}{H:Heap}{R:Value→Heap→Prop}{a0 a1 a2:Value}(h:wpS cp lo Lx (aG Eh R) [a0,a1,a2,undef,undef] H):Ev cp lo 67 [a0,a1,a2] H R:=aD (cf:=Eh) rfl rfl rfl h
theorem VG{lo:Nat}{H:Heap}{R:Value→Heap→Prop}{a0 a1 a2:Value}(h:wpS cp lo Lk (aG CD R) [a0,a1,a2,undef,undef] H):Ev cp lo 68 [a0,a1,a2] H R:=aD (cf:=CD) rfl rfl rfl h
theorem V2{lo:Nat}{H:Heap}{R:Value→Heap→Prop}{a0 a1 a2:Value}(h:wpS cp lo Kz (aG EK R) [a0,a1,a2,undef,undef,undef,undef,undef] H):Ev cp lo 69 [a0,a1,a2] H R:=aD (cf:=EK) rfl rfl rfl h
theorem T9{lo:Nat}{H:Heap}{R:Value→Heap→Prop}{a0 a1 a2:Value}(h:wpS cp lo MZ (aG G0 R) [a0,a1,a2,undef,undef,undef,undef,undef,undef,undef] H):Ev cp lo 70 [a0,a1,a2] H R:=aD (cf:=G0) rfl rfl rfl h
theorem UA{lo:Nat}{H:Heap}{R:Value→Heap→Prop}{a0:Value}(h:wpS cp lo MG (aG EL R) [a0,undef,undef,undef,undef,undef,undef,undef,undef,undef,undef,undef,undef,undef,undef,undef,undef,undef,undef,undef,undef,undef] H):Ev cp lo 71 [a0] H R:=aD (cf:=EL) rfl rfl rfl h
theorem Tu{lo:Nat}{H:Heap}{R:Value→Heap→Prop}{a0:Value}(h:wpS cp lo LI (aG GR R) [a0,undef,undef,undef,undef,undef,undef,undef,undef] H):Ev cp lo 72 [a0] H R:=aD (cf:=GR) rfl rfl rfl h
theorem UK{lo:Nat}{H:Heap}{R:Value→Heap→Prop}{a0 a1:Value}(h:wpS cp lo MQ (aG F5 R) [a0,a1,undef,undef,undef,undef,undef,undef] H):Ev cp lo 73 [a0,a1] H R:=aD (cf:=F5) rfl rfl rfl h
theorem Tw{lo:Nat}{H:Heap}{R:Value→Heap→Prop}{a0 a1 a2 a3:Value}(h:wpS cp lo ti (aG rJ R) [a0,a1,a2,a3,undef,undef,undef,undef,undef,undef,undef,undef,undef,undef,undef,undef,undef,undef,undef,undef,undef,undef,undef,undef,undef,undef,undef,undef,undef,undef,undef,undef,undef,undef,undef,undef,undef,undef,undef,undef,undef,undef,undef,undef,undef,undef,undef,undef,undef,undef,undef,undef,undef,undef,undef,undef,undef,undef,undef] H):Ev cp lo 74 [a0,a1,a2,a3] H R:=aD (cf:=rJ) rfl rfl rfl h
theorem SR{lo:Nat}{H:Heap}{R:Value→Heap→Prop}{a0 a1:Value}(h:wpS cp lo K8 (aG EW R) [a0,a1,undef,undef,undef,undef,undef] H):Ev cp lo 99 [a0,a1] H R:=aD (cf:=EW) rfl rfl rfl h
theorem QL{lo:Nat}{H:Heap}{R:Value→Heap→Prop}{a0:Value}(h:wpS cp lo Fs (aG vz R) [a0,undef,undef,undef,undef,undef,undef,undef,undef,undef,undef,undef] H):Ev cp lo 100 [a0] H R:=aD (cf:=vz) rfl rfl rfl h
theorem Py{lo:Nat}{H:Heap}{R:Value→Heap→Prop}{a0 a1 a2:Value}(h:wpS cp lo CY (aG xU R) [a0,a1,a2,undef,undef] H):Ev cp lo 101 [a0,a1,a2] H R:=aD (cf:=xU) rfl rfl rfl h
theorem NX{lo:Nat}{H:Heap}{R:Value→Heap→Prop}{a0 a1:Value}(h:wpS cp lo Fb (aG xV R) [a0,a1,undef,undef,undef,undef,undef,undef] H):Ev cp lo 102 [a0,a1] H R:=aD (cf:=xV) rfl rfl rfl h
theorem Mz{lo:Nat}{H:Heap}{R:Value→Heap→Prop}{a0 a1:Value}(h:wpS cp lo Fp (aG wF R) [a0,a1,undef,undef] H):Ev cp lo 103 [a0,a1] H R:=aD (cf:=wF) rfl rfl rfl h
theorem R6{lo:Nat}{H:Heap}{R:Value→Heap→Prop}{a0 a1:Value}(h:wpS cp lo EH (aG uY R) [a0,a1,undef,undef,undef,undef,undef,undef,undef,undef,undef,undef,undef,undef,undef,undef,undef] H):Ev cp lo 104 [a0,a1] H R:=aD (cf:=uY) rfl rfl rfl h
theorem Jc{lo:Nat}{H:Heap}{R:Value→Heap→Prop}{a0 a1:Value}(h:wpS cp lo zu (aG rZ R) [a0,a1,undef,undef,undef,undef,undef,undef,undef,undef,undef,undef] H):Ev cp lo 105 [a0,a1] H R:=aD (cf:=rZ) rfl rfl rfl h
theorem RG{lo:Nat}{H:Heap}{R:Value→Heap→Prop}{a0:Value}(h:wpS cp lo GW (aG w5 R) [a0,undef,undef,undef,undef,undef,undef,undef,undef,undef,undef,undef,undef,undef,undef,undef,undef,undef,undef,undef,undef,undef] H):Ev cp lo 106 [a0] H R:=aD (cf:=w5) rfl rfl rfl h
theorem Po{lo:Nat}{H:Heap}{R:Value→Heap→Prop}{a0 a1 a2:Value}(h:wpS cp lo CQ (aG vW R) [a0,a1,a2,undef,undef,undef,undef,undef,undef,undef,undef,undef,undef,undef,undef,undef,undef,undef,undef,undef,undef,undef,undef,undef,undef] H):Ev cp lo 107 [a0,a1,a2] H R:=aD (cf:=vW) rfl rfl rfl h
theorem QM{lo:Nat}{H:Heap}{R:Value→Heap→Prop}{a0 a1:Value}(h:wpS cp lo F0 (aG vB R) [a0,a1,undef,undef,undef,undef,undef,undef,undef] H):Ev cp lo 108 [a0,a1] H R:=aD (cf:=vB) rfl rfl rfl h
theorem Pf{lo:Nat}{H:Heap}{R:Value→Heap→Prop}{a0:Value}(h:wpS cp lo Bv (aG vV R) [a0,undef,undef,undef,undef,undef,undef,undef,undef] H):Ev cp lo 109 [a0] H R:=aD (cf:=vV) rfl rfl rfl h
theorem QT{lo:Nat}{H:Heap}{R:Value→Heap→Prop}{a0 a1:Value}(h:wpS cp lo Cn (aG vY R) [a0,a1,undef,undef] H):Ev cp lo 110 [a0,a1] H R:=aD (cf:=vY) rfl rfl rfl h
theorem O3{lo:Nat}{H:Heap}{R:Value→Heap→Prop}{a0:Value}(h:wpS cp lo F9 (aG vh R) [a0,undef,undef,undef,undef,undef,undef,undef,undef,undef,undef,undef,undef] H):Ev cp lo 111 [a0] H R:=aD (cf:=vh) rfl rfl rfl h
theorem Oq{lo:Nat}{H:Heap}{R:Value→Heap→Prop}{a0 a1 a2 a3:Value}(h:wpS cp lo Ek (aG xF R) [a0,a1,a2,a3,undef,undef,undef,undef,undef,undef,undef,undef,undef,undef,undef,undef] H):Ev cp lo 112 [a0,a1,a2,a3] H R:=aD (cf:=xF) rfl rfl rfl h
theorem Ng{lo:Nat}{H:Heap}{R:Value→Heap→Prop}{a0 a1:Value}(h:wpS cp lo Cv (aG ui R) [a0,a1,undef,undef,undef,undef,undef] H):Ev cp lo 113 [a0,a1] H R:=aD (cf:=ui) rfl rfl rfl h
theorem Ru{lo:Nat}{H:Heap}{R:Value→Heap→Prop}{a0:Value}(h:wpS cp lo EO (aG wV R) [a0,undef,undef,undef,undef,undef] H):Ev cp lo 114 [a0] H R:=aD (cf:=wV) rfl rfl rfl h
theorem Pb{lo:Nat}{H:Heap}{R:Value→Heap→Prop}{a0 a1 a2:Value}(h:wpS cp lo EX (aG uf R) [a0,a1,a2,undef,undef,undef,undef,undef,undef,undef] H):Ev cp lo 115 [a0,a1,a2] H R:=aD (cf:=uf) rfl rfl rfl h
theorem OE{lo:Nat}{H:Heap}{R:Value→Heap→Prop}{a0:Value}(h:wpS cp lo Cw (aG wo R) [a0,undef,undef,undef] H):Ev cp lo 116 [a0] H R:=aD (cf:=wo) rfl rfl rfl h
theorem Ry{lo:Nat}{H:Heap}{R:Value→Heap→Prop}{a0:Value}(h:wpS cp lo Du (aG vk R) [a0,undef,undef,undef,undef,undef,undef,undef,undef,undef,undef,undef,undef,undef,undef,undef,undef] H):Ev cp lo 117 [a0] H R:=aD (cf:=vk) rfl rfl rfl h
theorem RT{lo:Nat}{H:Heap}{R:Value→Heap→Prop}{a0:Value}(h:wpS cp lo EF (aG wh R) [a0,undef,undef,undef,undef,undef] H):Ev cp lo 118 [a0] H R:=aD (cf:=wh) rfl rfl rfl h
theorem Nv{lo:Nat}{H:Heap}{R:Value→Heap→Prop}{a0:Value}(h:wpS cp lo DU (aG uh R) [a0,undef,undef,undef,undef,undef,undef,undef,undef,undef,undef,undef,undef,undef,undef,undef,undef,undef,undef,undef,undef,undef,undef] H):Ev cp lo 119 [a0] H R:=aD (cf:=uh) rfl rfl rfl h
theorem OW{lo:Nat}{H:Heap}{R:Value→Heap→Prop}{a0:Value}(h:wpS cp lo FB (aG uv R) [a0,undef,undef,undef,undef,undef,undef,undef,undef,undef,undef,undef,undef,undef,undef,undef,undef,undef,undef,undef,undef,undef,undef,undef,undef,undef,undef,undef,undef,undef,undef,undef,undef,undef,undef,undef] H):Ev cp lo 120 [a0] H R:=aD (cf:=uv) rfl rfl rfl h
theorem Qi{lo:Nat}{H:Heap}{R:Value→Heap→Prop}{a0:Value}(h:wpS cp lo DF (aG wS R) [a0,undef,undef,undef,undef,undef] H):Ev cp lo 121 [a0] H R:=aD (cf:=wS) rfl rfl rfl h
theorem RV{lo:Nat}{H:Heap}{R:Value→Heap→Prop}{a0 a1:Value}(h:wpS cp lo EB (aG wU R) [a0,a1,undef,undef,undef,undef,undef,undef,undef,undef,undef,undef] H):Ev cp lo 122 [a0,a1] H R:=aD (cf:=wU) rfl rfl rfl h
theorem Nb{lo:Nat}{H:Heap}{R:Value→Heap→Prop}{a0 a1:Value}(h:wpS cp lo FM (aG uX R) [a0,a1,undef,undef,undef,undef,undef,undef,undef,undef,undef] H):Ev cp lo 123 [a0,a1] H R:=aD (cf:=uX) rfl rfl rfl h
theorem QA{lo:Nat}{H:Heap}{R:Value→Heap→Prop}{a0 a1:Value}(h:wpS cp lo GM (aG ue R) [a0,a1,undef,undef,undef,undef,undef,undef,undef,undef,undef,undef,undef,undef,undef,undef,undef,undef,undef,undef,undef,undef,undef,undef,undef,undef,undef,undef,undef,undef,undef,undef] H):Ev cp lo 124 [a0,a1] H R:=aD (cf:=ue) rfl rfl rfl h
theorem OC{lo:Nat}{H:Heap}{R:Value→Heap→Prop}{a0 a1 a2:Value}(h:wpS cp lo CI (aG vy R) [a0,a1,a2,undef,undef,undef,undef,undef,undef,undef,undef] H):Ev cp lo 125 [a0,a1,a2] H R:=aD (cf:=vy) rfl rfl rfl h
theorem Ot{lo:Nat}{H:Heap}{R:Value→Heap→Prop}{a0 a1:Value}(h:wpS cp lo Fe (aG wz R) [a0,a1,undef,undef,undef] H):Ev cp lo 126 [a0,a1] H R:=aD (cf:=wz) rfl rfl rfl h
theorem PI{lo:Nat}{H:Heap}{R:Value→Heap→Prop}{a0 a1 a2 a3:Value}(h:wpS cp lo CR (aG xH R) [a0,a1,a2,a3,undef,undef,undef,undef,undef,undef,undef,undef,undef,undef,undef,undef,undef,undef,undef,undef,undef,undef,undef,undef,undef,undef,undef,undef,undef,undef,undef,undef,undef,undef,undef,undef,undef,undef,undef] H):Ev cp lo 127 [a0,a1,a2,a3] H R:=aD (cf:=xH) rfl rfl rfl h
theorem OJ{lo:Nat}{H:Heap}{R:Value→Heap→Prop}{a0:Value}(h:wpS cp lo FJ (aG vF R) [a0,undef,undef] H):Ev cp lo 148 [a0] H R:=aD (cf:=vF) rfl rfl rfl h
theorem Ms{lo:Nat}{H:Heap}{R:Value→Heap→Prop}{a0:Value}(h:wpS cp lo GP (aG u7 R) [a0,undef,undef] H):Ev cp lo 149 [a0] H R:=aD (cf:=u7) rfl rfl rfl h
theorem Q4{lo:Nat}{H:Heap}{R:Value→Heap→Prop}{a0:Value}(h:wpS cp lo C8 (aG u6 R) [a0,undef,undef,undef,undef,undef,undef] H):Ev cp lo 150 [a0] H R:=aD (cf:=u6) rfl rfl rfl h
theorem Od{lo:Nat}{H:Heap}{R:Value→Heap→Prop}{a0 a1:Value}(h:wpS cp lo EN (aG vA R) [a0,a1,undef,undef,undef,undef,undef,undef] H):Ev cp lo 151 [a0,a1] H R:=aD (cf:=vA) rfl rfl rfl h
theorem Pe{lo:Nat}{H:Heap}{R:Value→Heap→Prop}{a0 a1 a2 a3:Value}(h:wpS cp lo Ea (aG wK R) [a0,a1,a2,a3,undef,undef,undef,undef,undef,undef,undef,undef,undef,undef,undef,undef,undef,undef,undef] H):Ev cp lo 152 [a0,a1,a2,a3] H R:=aD (cf:=wK) rfl rfl rfl h
theorem SE{lo:Nat}{H:Heap}{R:Value→Heap→Prop}{a0 a1 a2:Value}(h:wpS cp lo CP (aG wm R) [a0,a1,a2,undef,undef] H):Ev cp lo 153 [a0,a1,a2] H R:=aD (cf:=wm) rfl rfl rfl h
theorem Oi{lo:Nat}{H:Heap}{R:Value→Heap→Prop}{a0 a1 a2:Value}(h:wpS cp lo Cu (aG wP R) [a0,a1,a2,undef,undef] H):Ev cp lo 154 [a0,a1,a2] H R:=aD (cf:=wP) rfl rfl rfl h
theorem RW{lo:Nat}{H:Heap}{R:Value→Heap→Prop}{a0 a1 a2:Value}(h:wpS cp lo Ey (aG v3 R) [a0,a1,a2,undef,undef] H):Ev cp lo 155 [a0,a1,a2] H R:=aD (cf:=v3) rfl rfl rfl h
theorem KM{lo:Nat}{H:Heap}{R:Value→Heap→Prop}{a0:Value}(h:wpS cp lo zM (aG sW R) [a0,undef,undef] H):Ev cp lo 156 [a0] H R:=aD (cf:=sW) rfl rfl rfl h
theorem Mu{lo:Nat}{H:Heap}{R:Value→Heap→Prop}{a0 a1:Value}(h:wpS cp lo Cb (aG vU R) [a0,a1,undef,undef,undef,undef,undef,undef] H):Ev cp lo 157 [a0,a1] H R:=aD (cf:=vU) rfl rfl rfl h
theorem Rj{lo:Nat}{H:Heap}{R:Value→Heap→Prop}{a0:Value}(h:wpS cp lo CU (aG wG R) [a0,undef,undef] H):Ev cp lo 158 [a0] H R:=aD (cf:=wG) rfl rfl rfl h
theorem OR{lo:Nat}{H:Heap}{R:Value→Heap→Prop}{a0:Value}(h:wpS cp lo GV (aG ub R) [a0,undef,undef,undef,undef,undef] H):Ev cp lo 159 [a0] H R:=aD (cf:=ub) rfl rfl rfl h
theorem SB{lo:Nat}{H:Heap}{R:Value→Heap→Prop}{a0 a1 a2:Value}(h:wpS cp lo Fv (aG wQ R) [a0,a1,a2,undef,undef,undef,undef,undef] H):Ev cp lo 160 [a0,a1,a2] H R:=aD (cf:=wQ) rfl rfl rfl h
theorem Mh{lo:Nat}{H:Heap}{R:Value→Heap→Prop}{a0:Value}(h:wpS cp lo Fi (aG wO R) [a0,undef,undef,undef,undef,undef] H):Ev cp lo 161 [a0] H R:=aD (cf:=wO) rfl rfl rfl h
theorem R5{lo:Nat}{H:Heap}{R:Value→Heap→Prop}{a0 a1 a2:Value}(h:wpS cp lo DO (aG vX R) [a0,a1,a2,undef,undef,undef] H):Ev cp lo 162 [a0,a1,a2] H R:=aD (cf:=vX) rfl rfl rfl h
theorem Rk{lo:Nat}{H:Heap}{R:Value→Heap→Prop}{a0 a1 a2:Value}(h:wpS cp lo C7 (aG wY R) [a0,a1,a2,undef,undef,undef,undef,undef,undef,undef,undef,undef,undef,undef,undef,undef,undef,undef,undef,undef,undef,undef,undef] H):Ev cp lo 163 [a0,a1,a2] H R:=aD (cf:=wY) rfl rfl rfl h
theorem RM{lo:Nat}{H:Heap}{R:Value→Heap→Prop}{a0 a1 a2 a3 a4:Value}(h:wpS cp lo ER (aG x3 R) [a0,a1,a2,a3,a4,undef,undef,undef,undef,undef,undef,undef,undef,undef,undef,undef,undef,undef,undef,undef] H):Ev cp lo 164 [a0,a1,a2,a3,a4] H R:=aD (cf:=x3) rfl rfl rfl h
theorem RN{lo:Nat}{H:Heap}{R:Value→Heap→Prop}{a0 a1:Value}(h:wpS cp lo D0 (aG uu R) [a0,a1,undef] H):Ev cp lo 165 [a0,a1] H R:=aD (cf:=uu) rfl rfl rfl h
theorem QR{lo:Nat}{H:Heap}{R:Value→Heap→Prop}{a0 a1 a2 a3:Value}(h:wpS cp lo EE (aG w8 R) [a0,a1,a2,a3,undef,undef,undef,undef,undef,undef,undef,undef,undef,undef,undef,undef,undef,undef,undef,undef] H):Ev cp lo 166 [a0,a1,a2,a3] H R:=aD (cf:=w8) rfl rfl rfl h
theorem Oc{lo:Nat}{H:Heap}{R:Value→Heap→Prop}{a0 a1:Value}(h:wpS cp lo FR (aG wa R) [a0,a1,undef,undef,undef,undef,undef,undef,undef,undef,undef,undef,undef,undef,undef,undef,undef,undef,undef,undef,undef,undef,undef,undef,undef,undef,undef,undef] H):Ev cp lo 167 [a0,a1] H R:=aD (cf:=wa) rfl rfl rfl h
theorem O5{lo:Nat}{H:Heap}{R:Value→Heap→Prop}{a0 a1 a2:Value}(h:wpS cp lo Gh (aG w7 R) [a0,a1,a2,undef,undef,undef,undef,undef,undef,undef,undef] H):Ev cp lo 168 [a0,a1,a2] H R:=aD (cf:=w7) rfl rfl rfl h
theorem Nl{lo:Nat}{H:Heap}{R:Value→Heap→Prop}{a0 a1:Value}(h:wpS cp lo EC (aG wH R) [a0,a1,undef,undef,undef,undef,undef,undef,undef,undef] H):Ev cp lo 169 [a0,a1] H R:=aD (cf:=wH) rfl rfl rfl h
theorem O4{lo:Nat}{H:Heap}{R:Value→Heap→Prop}{a0 a1 a2:Value}(h:wpS cp lo FC (aG uq R) [a0,a1,a2,undef,undef] H):Ev cp lo 170 [a0,a1,a2] H R:=aD (cf:=uq) rfl rfl rfl h
theorem Mi{lo:Nat}{H:Heap}{R:Value→Heap→Prop}{a0 a1 a2:Value}(h:wpS cp lo Ck (aG v9 R) [a0,a1,a2,undef,undef] H):Ev cp lo 171 [a0,a1,a2] H R:=aD (cf:=v9) rfl rfl rfl h
theorem Ni{lo:Nat}{H:Heap}{R:Value→Heap→Prop}{a0 a1 a2:Value}(h:wpS cp lo EY (aG uw R) [a0,a1,a2,undef,undef] H):Ev cp lo 172 [a0,a1,a2] H R:=aD (cf:=uw) rfl rfl rfl h
theorem Oa{lo:Nat}{H:Heap}{R:Value→Heap→Prop}{a0 a1 a2:Value}(h:wpS cp lo DV (aG xY R) [a0,a1,a2,undef,undef,undef,undef,undef,undef,undef,undef] H):Ev cp lo 173 [a0,a1,a2] H R:=aD (cf:=xY) rfl rfl rfl h
theorem NM{lo:Nat}{H:Heap}{R:Value→Heap→Prop}{a0 a1:Value}(h:wpS cp lo Di (aG xW R) [a0,a1,undef] H):Ev cp lo 174 [a0,a1] H R:=aD (cf:=xW) rfl rfl rfl h
theorem Ob{lo:Nat}{H:Heap}{R:Value→Heap→Prop}{a0 a1 a2 a3 a4:Value}(h:wpS cp lo Eu (aG xM R) [a0,a1,a2,a3,a4,undef,undef,undef,undef,undef,undef,undef,undef,undef,undef,undef,undef,undef,undef,undef,undef] H):Ev cp lo 175 [a0,a1,a2,a3,a4] H R:=aD (cf:=xM) rfl rfl rfl h
theorem Oy{lo:Nat}{H:Heap}{R:Value→Heap→Prop}{a0:Value}(h:wpS cp lo Et (aG uz R) [a0,undef,undef,undef] H):Ev cp lo 189 [a0] H R:=aD (cf:=uz) rfl rfl rfl h
theorem OU{lo:Nat}{H:Heap}{R:Value→Heap→Prop}{a0 a1:Value}(h:wpS cp lo GL (aG vN R) [a0,a1,undef,undef,undef,undef,undef,undef,undef] H):Ev cp lo 190 [a0,a1] H R:=aD (cf:=vN) rfl rfl rfl h
theorem Oh{lo:Nat}{H:Heap}{R:Value→Heap→Prop}{a0 a1:Value}(h:wpS cp lo CT (aG xZ R) [a0,a1,undef,undef,undef,undef,undef] H):Ev cp lo 191 [a0,a1] H R:=aD (cf:=xZ) rfl rfl rfl h
theorem P7{lo:Nat}{H:Heap}{R:Value→Heap→Prop}{a0 a1:Value}(h:wpS cp lo E8 (aG vu R) [a0,a1,undef,undef,undef,undef,undef] H):Ev cp lo 192 [a0,a1] H R:=aD (cf:=vu) rfl rfl rfl h
theorem PW{lo:Nat}{H:Heap}{R:Value→Heap→Prop}{a0 a1 a2:Value}(h:wpS cp lo EP (aG vm R) [a0,a1,a2,undef,undef] H):Ev cp lo 193 [a0,a1,a2] H R:=aD (cf:=vm) rfl rfl rfl h
theorem PM{lo:Nat}{H:Heap}{R:Value→Heap→Prop}{a0:Value}(h:wpS cp lo D4 (aG xP R) [a0,undef] H):Ev cp lo 204 [a0] H R:=aD (cf:=xP) rfl rfl rfl h
end Go.Proofs.YtmnlgdpdgjbfgaaGreat
