/- Lemmas. -/
import Derived.Test.YtgpolmomghejoaaDoorE8
import Derived.Test.YtgpolmomghejoaaDoorProg
import Derived.KernelRfl
set_option linter.unusedVariables false
set_option linter.unusedSimpArgs false
set_option linter.unusedSectionVars false
namespace Go.Proofs.YtgpolmomghejoaaDoor
open Go.Abs
def Hr:ByteArray:=⟨#[0,1,2,2,3,3,3,3,4,4,4,4,4,4,4,4,5,5,5,5,5,5,5,5,5,5,5,5,5,5,5,5,6,6,6,6,6,6,6,6,6,6,6,6,6,6,6,6,6,6,6,6,6,6,6,6,6,6,6,6,6,6,6,6,7,7,7,7,7,7,7,7,7,7,7,7,7,7,7,7,7,7,7,7,7,7,7,7,7,7,7,7,7,7,7,7,7,7,7,7,7,7,7,7,7,7,7,7,7,7,7,7,7,7,7,7,7,7,7,7,7,7,7,7,7,7,7,7,8,8,8,8,8,8,8,8,8,8,8,8,8,8,8,8,8,8,8,8,8,8,8,8,8,8,8,8,8,8,8,8,8,8,8,8,8,8,8,8,8,8,8,8,8,8,8,8,8,8,8,8,8,8,8,8,8,8,8,8,8,8,8,8,8,8,8,8,8,8,8,8,8,8,8,8,8,8,8,8,8,8,8,8,8,8,8,8,8,8,8,8,8,8,8,8,8,8,8,8,8,8,8,8,8,8,8,8,8,8,8,8,8,8,8,8,8,8,8,8,8,8,8,8,8,8,8,8]⟩
def Ju:ByteArray:=⟨#[115,116,114,105,110,103,115,58,32,82,101,112,101,97,116,32,111,117,116,112,117,116,32,108,101,110,103,116,104,32,111,118,101,114,102,108,111,119]⟩
def GU:ByteArray:=⟨#[32,32,32,32,32,32,32,32,32,32,32,32,32,32,32,32,32,32,32,32,32,32,32,32,32,32,32,32,32,32,32,32,32,32,32,32,32,32,32,32,32,32,32,32,32,32,32,32,32,32,32,32,32,32,32,32,32,32,32,32,32,32,32,32,32,32,32,32,32,32,32,32,32,32,32,32,32,32,32,32,32,32,32,32,32,32,32,32,32,32,32,32,32,32,32,32,32,32,32,32,32,32,32,32,32,32,32,32,32,32,32,32,32,32,32,32,32,32,32,32,32,32,32,32,32,32,32,32]⟩
def G7:ByteArray:=⟨#[45,45,45,45,45,45,45,45,45,45,45,45,45,45,45,45,45,45,45,45,45,45,45,45,45,45,45,45,45,45,45,45,45,45,45,45,45,45,45,45,45,45,45,45,45,45,45,45,45,45,45,45,45,45,45,45,45,45,45,45,45,45,45,45,45,45,45,45,45,45,45,45,45,45,45,45,45,45,45,45,45,45,45,45,45,45,45,45,45,45,45,45,45,45,45,45,45,45,45,45,45,45,45,45,45,45,45,45,45,45,45,45,45,45,45,45,45,45,45,45,45,45,45,45,45,45,45,45]⟩
def Ga:ByteArray:=⟨#[48,48,48,48,48,48,48,48,48,48,48,48,48,48,48,48,48,48,48,48,48,48,48,48,48,48,48,48,48,48,48,48,48,48,48,48,48,48,48,48,48,48,48,48,48,48,48,48,48,48,48,48,48,48,48,48,48,48,48,48,48,48,48,48]⟩
def Gt:ByteArray:=⟨#[61,61,61,61,61,61,61,61,61,61,61,61,61,61,61,61,61,61,61,61,61,61,61,61,61,61,61,61,61,61,61,61,61,61,61,61,61,61,61,61,61,61,61,61,61,61,61,61,61,61,61,61,61,61,61,61,61,61,61,61,61,61,61,61,61,61,61,61,61,61,61,61,61,61,61,61,61,61,61,61,61,61,61,61,61,61,61,61,61,61,61,61,61,61,61,61,61,61,61,61,61,61,61,61,61,61,61,61,61,61,61,61,61,61,61,61,61,61,61,61,61,61,61,61,61,61,61,61]⟩
def HC:ByteArray:=⟨#[9,9,9,9,9,9,9,9,9,9,9,9,9,9,9,9,9,9,9,9,9,9,9,9,9,9,9,9,9,9,9,9,9,9,9,9,9,9,9,9,9,9,9,9,9,9,9,9,9,9,9,9,9,9,9,9,9,9,9,9,9,9,9,9]⟩
def yQ:ByteArray:=⟨#[48,49,50,51,52,53,54,55,56,57,97,98,99,100,101,102,103,104,105,106,107,108,109,110,111,112,113,114,115,116,117,118,119,120,121,122]⟩
def lI:ByteArray:=⟨#[48,48,48,49,48,50,48,51,48,52,48,53,48,54,48,55,48,56,48,57,49,48,49,49,49,50,49,51,49,52,49,53,49,54,49,55,49,56,49,57,50,48,50,49,50,50,50,51,50,52,50,53,50,54,50,55,50,56,50,57,51,48,51,49,51,50,51,51,51,52,51,53,51,54,51,55,51,56,51,57,52,48,52,49,52,50,52,51,52,52,52,53,52,54,52,55,52,56,52,57,53,48,53,49,53,50,53,51,53,52,53,53,53,54,53,55,53,56,53,57,54,48,54,49,54,50,54,51,54,52,54,53,54,54,54,55,54,56,54,57,55,48,55,49,55,50,55,51,55,52,55,53,55,54,55,55,55,56,55,57,56,48,56,49,56,50,56,51,56,52,56,53,56,54,56,55,56,56,56,57,57,48,57,49,57,50,57,51,57,52,57,53,57,54,57,55,57,56,57,57]⟩
def Ia:ByteArray:=⟨#[115,116,114,99,111,110,118,58,32,105,108,108,101,103,97,108,32,65,112,112,101,110,100,73,110,116,47,70,111,114,109,97,116,73,110,116,32,98,97,115,101]⟩
namespace K
def x(n:Nat):E:=.var n
def i(n:Int):E:=.cst (.int .i64 n)
def c(a b:E):E:=.cons a b
def c1(a:E):E:=.cons a .nil
def c2(a b:E):E:=.cons a (.cons b .nil)
def c3(a b c:E):E:=.cons a (.cons b (.cons c .nil))
def n1(o:LOp)(a:E):E:=.node o (.cons a .nil)
def n2(o:LOp)(a b:E):E:=.node o (.cons a (.cons b .nil))
def b(o:BinOp)(a b:E):E:=.node (.bin o) (.cons a (.cons b .nil))
def ld(a:E):E:=.node (.ld 1 false) (.cons a .nil)
def fa(n:Nat)(a:E):E:=.node (.fAddr n) (.cons a .nil)
def ix(n:Nat)(a:E):E:=.node (.ext n) (.cons a .nil)
def p(a b c:E):E:=.pick a b c
def h(d:Nat)(o:HOp)(a:E):Stm:=.hv [] [] [] (some d) o a
def cl(d f:Nat)(a:E):Stm:=.hv [] [] [] (some d) (.call false) (.cons (.cst (.func (.func f) #[] #[])) a)
def s(l:List (Nat×E)):Stm:=.sets l []
def q(a b:Stm):Stm:=.seq a b
end K
set_option linter.defProp false in
def kB:=And.intro @K.x.eq_1 (And.intro @K.i.eq_1 (And.intro @K.c.eq_1 (And.intro @K.c1.eq_1 (And.intro @K.c2.eq_1 (And.intro @K.c3.eq_1 (And.intro @K.n1.eq_1 (And.intro @K.n2.eq_1 (And.intro @K.b.eq_1 (And.intro @K.ld.eq_1 (And.intro @K.fa.eq_1 (And.intro @K.ix.eq_1 (And.intro @K.p.eq_1 (And.intro @K.h.eq_1 (And.intro @K.cl.eq_1 (And.intro @K.s.eq_1 @K.q.eq_1)))))))))))))))
section
open K
def bd2:Stm:=
 .hv [] [] [] none (.call false) (c1 (.cst (.func (.func 1) #[] #[])))
def cf2:CF:=⟨0,0,[],bd2,.plain⟩
def tr2:List Nat:=[]
def bd3:Stm:=
 q (s [(2,.cst (.bool false))]) (q (.cond (p (b .gtr (n1 .lenS (x 0)) (i 150)) (.cst (.bool true)) (b .gtr (n1 .len (x 1)) (i 50))) (q (q (cl 11 12 .nil) (s
 [(2,x 11)])) .ret) .skip) (q (q (cl 12 13 (c1 (x 0))) (s [(4,ix 1 (x 12)),(3,ix 0 (x 12))])) (q (q (cl 13 14 (c1 (x 0))) (s [(6,ix 1 (x 13)),(5,ix 0 (x
 13))])) (q (q (cl 14 15 (c1 (x 1))) (s [(8,ix 1 (x 14)),(7,ix 0 (x 14))])) (q (q (cl 15 16 (c1 (x 1))) (s [(10,ix 1 (x 15)),(9,ix 0 (x 15))])) (q (q
 (.hv [(16,b .eql (x 4) (x 6))] [] [(b .eql (x 4) (x 6),true)] (some 17) (.call false) (c3 (.cst (.func (.func 17) #[] #[])) (x 3) (x 5))) (q (.hv [(18,p (p
 (p (x 16) (x 17) (.cst (.bool false))) (b .eql (x 8) (x 10)) (.cst (.bool false))) (b .eql (x 7) (x 9)) (.cst (.bool false)))] [] [(p (p (p (x 16) (x 17)
 (.cst (.bool false))) (b .eql (x 8) (x 10)) (.cst (.bool false))) (b .eql (x 7) (x 9)) (.cst (.bool false)),true)] (some 19) (.call false) (c1 (.cst (.func
 (.func 12) #[] #[])))) (s [(2,p (x 18) (x 19) (.cst (.bool false)))]))) .ret))))))
def cf3:CF:=⟨2,20,[(.var 2)],bd3,.plain⟩
def tr3:List Nat:=[0,1,4,5,6,7,8,9,10,11,12,21,24,29,34,39,45,48,60,61]
def bd4:Stm:=
 q (s [(1,.cst (.bool false))]) (q (.cond (b .gtr (n1 .len (x 0)) (i 100)) (q (q (cl 6 12 .nil) (s [(1,x 6)])) .ret) .skip) (q (q (cl 7 18 (c1 (x 0))) (s [(3,
 ix 1 (x 7)),(2,ix 0 (x 7))])) (q (q (cl 8 19 (c1 (x 0))) (s [(5,ix 1 (x 8)),(4,ix 0 (x 8))])) (q (q (.hv [(9,p (b .eql (x 3) (x 5)) (b .eql (n1 .b2s (x
 2)) (n1 .b2s (x 4))) (.cst (.bool false)))] [] [(p (b .eql (x 3) (x 5)) (b .eql (n1 .b2s (x 2)) (n1 .b2s (x 4))) (.cst (.bool false)),true)] (some 10) (.call
 false) (c1 (.cst (.func (.func 12) #[] #[])))) (s [(1,p (x 9) (x 10) (.cst (.bool false)))])) .ret))))
def cf4:CF:=⟨1,11,[(.var 1)],bd4,.plain⟩
def tr4:List Nat:=[0,2,3,4,5,6,10,13,18,31,32]
def bd5:Stm:=
 q (s [(1,.cst (.bool false))]) (q (.cond (b .gtr (n1 .len (x 0)) (i 24)) (q (q (cl 8 12 .nil) (s [(1,x 8)])) .ret) .skip) (q (q (cl 9 20 (c1 (x 0))) (s [(3,
 ix 1 (x 9)),(2,ix 0 (x 9))])) (q (q (cl 10 21 (c1 (x 0))) (s [(5,ix 1 (x 10)),(4,ix 0 (x 10))])) (q (q (cl 11 22 (c1 (x 0))) (s [(7,ix 1 (x 11)),(6,ix
 0 (x 11))])) (q (q (.hv [(12,b .eql (x 3) (x 5))] [] [(b .eql (x 3) (x 5),true)] (some 13) (.call false) (c3 (.cst (.func (.func 17) #[] #[])) (x 2) (x 4)))
 (q (.hv [(14,p (p (p (x 12) (x 13) (.cst (.bool false))) (b .eql (x 7) (x 5)) (.cst (.bool false))) (b .eql (x 6) (n1 .len (x 4))) (.cst (.bool false)))] []
 [(p (p (p (x 12) (x 13) (.cst (.bool false))) (b .eql (x 7) (x 5)) (.cst (.bool false))) (b .eql (x 6) (n1 .len (x 4))) (.cst (.bool false)),true)] (some 15)
 (.call false) (c1 (.cst (.func (.func 12) #[] #[])))) (s [(1,p (x 14) (x 15) (.cst (.bool false)))]))) .ret)))))
def cf5:CF:=⟨1,16,[(.var 1)],bd5,.plain⟩
def tr5:List Nat:=[0,2,3,4,5,6,7,8,12,15,20,25,31,34,47,48]
def bd6:Stm:=
 q (s [(1,.cst (.bool false))]) (q (s [(2,.cst (.string ⟨ #[55] ⟩))]) (q (.block 0 (.loop (q (.cond (b .lss (n1 .lenS (x 2)) (i 4096)) .skip (.exit 0)) (.block
 1 (s [(2,b .add (x 2) (x 2))]))))) (q (s [(2,n2 (.slS false true) (x 2) (i 4096))]) (q (s [(3,n1 (.cvt .i64) (b .rem (x 0) (.cst (.int .u8 6))))]) (q (s
 [(4,n2 (.slS false true) (.cst (.string ⟨ #[48,48,48,48,48,48] ⟩)) (x 3))]) (q (q (cl 15 13 (c1 (b .add (x 2) (x 4)))) (.sets [(5,ix 1 (x 15))] [ix 0
 (x 15)])) (q (q (h 16 (.bSl [.int .i64 0] 0 []) .nil) (s [(6,x 16)])) (q (q (s [(7,i 0)]) (.block 2 (.loop (q (.cond (b .lss (x 7) (b .add (i 8189) (x 3)))
 .skip (.exit 2)) (q (.block 3 (q (.hv [(17,x 6)] [] [] (some 18) (.bSl [.int .i64 0] 1 [0]) (c1 (i 900))) (q (h 19 (.app 1 [.int .i64 0]) (c2 (x 17) (x 18)))
 (s [(6,x 19)])))) (s [(7,b .add (x 7) (i 1))])))))) (q (q (cl 20 18 (c1 (x 6))) (s [(9,ix 1 (x 20)),(8,ix 0 (x 20))])) (q (q (cl 21 15 (c1 (x 6))) (.sets
 [(10,ix 1 (x 21))] [ix 0 (x 21)])) (q (s [(11,.cst (.slice none 0 0))]) (q (q (h 22 (.appS [.int .u8 0]) (c2 (x 11) (x 2))) (s [(11,x 22)])) (q (q (h 23
 (.appS [.int .u8 0]) (c2 (x 11) (x 4))) (s [(11,x 23)])) (q (.cond (p (p (p (n2 (.eqB true) (b .eql (x 5) (i 4)) (b .gtr (x 3) (i 0))) (.cst (.bool true)) (b
 .neq (n1 .len (x 8)) (i 0))) (.cst (.bool true)) (n2 (.eqB true) (b .eql (x 9) (i 4)) (b .gtr (x 3) (i 3)))) (.cst (.bool true)) (n2 (.eqB true) (b .eql (x 9)
 (i 0)) (b .leq (x 3) (i 3)))) (q (s [(1,.cst (.bool false))]) .ret) .skip) (q (.cond (b .gtr (x 3) (i 0)) (q (q (cl 24 20 (c1 (x 11))) (.sets [(12,ix 1 (x
 24))] [ix 0 (x 24)])) (q (q (cl 25 22 (c1 (x 11))) (s [(14,ix 1 (x 25)),(13,ix 0 (x 25))])) (.cond (p (p (b .neq (x 12) (i 4)) (.cst (.bool true)) (b .neq
 (x 14) (i 4))) (.cst (.bool true)) (b .neq (x 13) (i 0))) (q (s [(1,.cst (.bool false))]) .ret) .skip))) .skip) (q (q (.hv [(26,p (n2 (.eqB false) (b .eql
 (x 10) (i 4)) (b .gtr (x 3) (i 3))) (n2 (.eqB false) (b .eql (x 10) (i 3)) (b .leq (x 3) (i 3))) (.cst (.bool false)))] [] [(p (n2 (.eqB false) (b .eql (x 10)
 (i 4)) (b .gtr (x 3) (i 3))) (n2 (.eqB false) (b .eql (x 10) (i 3)) (b .leq (x 3) (i 3))) (.cst (.bool false)),true)] (some 27) (.call false) (c1 (.cst
 (.func (.func 12) #[] #[])))) (s [(1,p (x 26) (x 27) (.cst (.bool false)))])) .ret))))))))))))))))
def cf6:CF:=⟨1,28,[(.var 1)],bd6,.plain⟩
def tr6:List Nat:=[0,2,3,4,5,7,8,9,10,11,13,14,16,17,18,36,39,46,47,48,51,56,61,64,93,98,123,124]
def bd7:Stm:=
 q (s [(1,.cst (.bool false))]) (q (.cond (b .gtr (n1 .len (x 0)) (i 200)) (q (q (cl 7 12 .nil) (s [(1,x 7)])) .ret) .skip) (q (q (cl 8 20 (c1 (x 0))) (s [(3,
 ix 1 (x 8)),(2,ix 0 (x 8))])) (q (q (cl 9 22 (c1 (x 0))) (s [(5,ix 1 (x 9)),(4,ix 0 (x 9))])) (q (q (s [(6,i 0)]) (.block 0 (.loop (q (.cond (b .lss (x
 6) (n1 .len (x 2))) .skip (.exit 0)) (q (.block 1 (.cond (p (b .lss (ld (n2 (.iAddr 1) (x 2) (x 6))) (i 0)) (.cst (.bool true)) (b .gtr (ld (n2 (.iAddr 1) (x
 2) (x 6))) (i 928))) (q (s [(1,.cst (.bool false))]) .ret) .skip)) (s [(6,b .add (x 6) (i 1))])))))) (q (q (.hv [(10,p (p (b .eql (x 3) (i 0)) (b .eql (x
 5) (i 0)) (.cst (.bool false))) (b .eql (x 4) (n1 .len (x 2))) (.cst (.bool false)))] [] [(p (p (b .eql (x 3) (i 0)) (b .eql (x 5) (i 0)) (.cst (.bool
 false))) (b .eql (x 4) (n1 .len (x 2))) (.cst (.bool false)),true)] (some 11) (.call false) (c3 (.cst (.func (.func 23) #[] #[])) (x 2) (n1 .b2s (x 0)))) (q
 (.hv [(12,p (x 10) (x 11) (.cst (.bool false)))] [] [(p (x 10) (x 11) (.cst (.bool false)),true)] (some 13) (.call false) (c1 (.cst (.func (.func 12) #[]
 #[])))) (s [(1,p (x 12) (x 13) (.cst (.bool false)))]))) .ret)))))
def cf7:CF:=⟨1,14,[(.var 1)],bd7,.plain⟩
def tr7:List Nat:=[0,2,3,4,5,6,7,11,14,19,52,56,58,59]
def bd8:Stm:=
 q (s [(2,.cst (.bool false))]) (q (.cond (p (b .gtr (n1 .lenS (x 0)) (i 300)) (.cst (.bool true)) (b .gtr (n1 .len (x 1)) (i 100))) (q (q (cl 12 12 .nil) (s
 [(2,x 12)])) .ret) .skip) (q (q (cl 13 15 (c1 (x 1))) (s [(4,ix 1 (x 13)),(3,ix 0 (x 13))])) (q (.cond (b .eql (x 4) (i 0)) (q (q (cl 14 13 (c1 (x 3))) (s
 [(6,ix 1 (x 14)),(5,ix 0 (x 14))])) (q (.hv [(15,b .neq (x 6) (i 0))] [] [(b .neq (x 6) (i 0),false)] (some 16) (.call false) (c3 (.cst (.func (.func 17)
 #[] #[])) (x 5) (x 1))) (.cond (p (x 15) (.cst (.bool true)) (n1 (.un .not) (x 16))) (q (s [(2,.cst (.bool false))]) .ret) .skip))) .skip) (q (q (cl 17 13
 (c1 (x 0))) (s [(8,ix 1 (x 17)),(7,ix 0 (x 17))])) (q (.cond (b .neq (x 8) (i 0)) (q (q (.hv [(18,b .eql (x 8) (i 6))] [] [(b .eql (x 8) (i 6),true)]
 (some 19) (.call false) (c1 (.cst (.func (.func 12) #[] #[])))) (s [(2,p (x 18) (x 19) (.cst (.bool false)))])) .ret) .skip) (q (s [(9,b .mul (b .quo (n1
 .lenS (x 0)) (i 44)) (i 15))]) (q (.cond (b .gtr (b .rem (n1 .lenS (x 0)) (i 44)) (i 0)) (s [(9,b .add (b .add (x 9) (b .quo (b .rem (n1 .lenS (x 0)) (i 44))
 (i 3))) (i 1))]) .skip) (q (q (cl 20 15 (c1 (x 7))) (s [(11,ix 1 (x 20)),(10,ix 0 (x 20))])) (q (q (.hv [(21,p (p (b .eql (n1 .len (x 7)) (x 9)) (b .eql
 (x 11) (i 0)) (.cst (.bool false))) (b .eql (x 10) (x 0)) (.cst (.bool false)))] [] [(p (p (b .eql (n1 .len (x 7)) (x 9)) (b .eql (x 11) (i 0)) (.cst (.bool
 false))) (b .eql (x 10) (x 0)) (.cst (.bool false)),true)] (some 22) (.call false) (c1 (.cst (.func (.func 12) #[] #[])))) (s [(2,p (x 21) (x 22) (.cst
 (.bool false)))])) .ret)))))))))
def cf8:CF:=⟨2,23,[(.var 2)],bd8,.plain⟩
def tr8:List Nat:=[0,1,4,5,6,7,8,9,10,11,12,13,22,25,32,37,40,45,52,53,72,88,89]
def bd9:Stm:=
 q (s [(1,.cst (.bool false))]) (q (.cond (b .gtr (n1 .len (x 0)) (i 100)) (q (q (cl 6 12 .nil) (s [(1,x 6)])) .ret) .skip) (q (q (cl 7 18 (c1 (x 0))) (s [(3,
 ix 1 (x 7)),(2,ix 0 (x 7))])) (q (.cond (p (b .neq (x 3) (i 0)) (.cst (.bool true)) (b .gtr (n1 .len (x 2)) (i 200))) (q (q (cl 8 12 .nil) (s [(1,x 8)]))
 .ret) .skip) (q (q (cl 9 22 (c1 (x 2))) (s [(5,ix 1 (x 9)),(4,ix 0 (x 9))])) (q (q (.hv [(10,p (b .eql (x 5) (i 0)) (b .leq (x 4) (n1 .len (x 0))) (.cst
 (.bool false)))] [] [(p (b .eql (x 5) (i 0)) (b .leq (x 4) (n1 .len (x 0))) (.cst (.bool false)),true)] (some 11) (.call false) (c1 (.cst (.func (.func 12)
 #[] #[])))) (s [(1,p (x 10) (x 11) (.cst (.bool false)))])) .ret)))))
def cf9:CF:=⟨1,12,[(.var 1)],bd9,.plain⟩
def tr9:List Nat:=[0,2,3,4,5,6,10,13,23,26,37,38]
def Kh:Stm:=
 q (s [(2,.cst (.bool false))]) (q (.cond (p (b .gtr (n1 .len (x 0)) (i 100)) (.cst (.bool true)) (b .gtr (n1 .len (x 1)) (i 100))) (q (q (cl 10 12 .nil) (s
 [(2,x 10)])) .ret) .skip) (q (s [(3,.cst (.slice none 0 0))]) (q (q (h 11 (.app 1 [.int .u8 0]) (c2 (x 3) (x 0))) (s [(3,x 11)])) (q (q (h 12 (.app 1 [.int
 .u8 0]) (c2 (x 3) (x 1))) (s [(3,x 12)])) (q (q (cl 13 22 (c1 (x 0))) (s [(5,ix 1 (x 13)),(4,ix 0 (x 13))])) (q (q (cl 14 22 (c1 (x 1))) (s [(7,ix 1 (x
 14)),(6,ix 0 (x 14))])) (q (q (cl 15 22 (c1 (x 3))) (s [(9,ix 1 (x 15)),(8,ix 0 (x 15))])) (q (q (.hv [(16,p (p (p (p (b .eql (x 5) (i 0)) (b .eql (x 7)
 (i 0)) (.cst (.bool false))) (b .eql (x 9) (i 0)) (.cst (.bool false))) (b .leq (x 8) (b .add (b .add (x 4) (x 6)) (i 1))) (.cst (.bool false))) (b .geq (x 8)
 (x 4)) (.cst (.bool false)))] [] [(p (p (p (p (b .eql (x 5) (i 0)) (b .eql (x 7) (i 0)) (.cst (.bool false))) (b .eql (x 9) (i 0)) (.cst (.bool false))) (b
 .leq (x 8) (b .add (b .add (x 4) (x 6)) (i 1))) (.cst (.bool false))) (b .geq (x 8) (x 4)) (.cst (.bool false)),true)] (some 17) (.call false) (c1 (.cst
 (.func (.func 12) #[] #[])))) (s [(2,p (x 16) (x 17) (.cst (.bool false)))])) .ret))))))))
def G5:CF:=⟨2,18,[(.var 2)],Kh,.plain⟩
def KM:List Nat:=[0,1,4,5,6,7,8,9,10,11,20,23,26,29,34,39,65,66]
def Ji:Stm:=
 q (s [(1,.cst (.bool false))]) (q (.cond (p (b .eql (n1 .len (x 0)) (i 0)) (.cst (.bool true)) (b .gtr (n1 .len (x 0)) (i 200))) (q (q (cl 6 12 .nil) (s [(1,x
 6)])) .ret) .skip) (q (q (cl 7 22 (c1 (x 0))) (s [(3,ix 1 (x 7)),(2,ix 0 (x 7))])) (q (.cond (p (p (b .neq (x 3) (i 0)) (.cst (.bool true)) (b .lss (x 2)
 (i 1))) (.cst (.bool true)) (b .gtr (x 2) (b .add (b .add (i 1) (b .mul (b .quo (n1 .len (x 0)) (i 6)) (i 5))) (b .rem (n1 .len (x 0)) (i 6))))) (q (s [(1,
 .cst (.bool false))]) .ret) .skip) (q (q (s [(4,i 0)]) (.block 0 (.loop (q (.cond (b .lss (x 4) (n1 .len (x 0))) .skip (.exit 0)) (q (.block 1 (.cond (p (b
 .lss (ld (n2 (.iAddr 1) (x 0) (x 4))) (.cst (.int .u8 48))) (.cst (.bool true)) (b .gtr (ld (n2 (.iAddr 1) (x 0) (x 4))) (.cst (.int .u8 57)))) (q (q (cl 8 12
 .nil) (s [(1,x 8)])) .ret) .skip)) (s [(4,b .add (x 4) (i 1))])))))) (q (s [(5,b .add (i 1) (b .mul (b .quo (n1 .len (x 0)) (i 44)) (i 15)))]) (q (.cond (b
 .gtr (b .rem (n1 .len (x 0)) (i 44)) (i 0)) (s [(5,b .add (b .add (x 5) (b .quo (b .rem (n1 .len (x 0)) (i 44)) (i 3))) (i 1))]) .skip) (q (q (.hv [(9,b
 .leq (x 2) (x 5))] [] [(b .leq (x 2) (x 5),true)] (some 10) (.call false) (c1 (.cst (.func (.func 12) #[] #[])))) (s [(1,p (x 9) (x 10) (.cst (.bool
 false)))])) .ret)))))))
def Fg:CF:=⟨1,11,[(.var 1)],Ji,.plain⟩
def IN:List Nat:=[0,2,3,4,5,6,15,18,58,78,79]
def Ei:Stm:=
 q (s [(0,.cst (.bool false))]) (q (q (cl 9 13 (c1 (.cst (.string ⟨ #[48,48,48,50,49,51,50,57,56,49,55,52,48,48,48] ⟩)))) (s [(2,ix 1 (x 9)),(1,
 ix 0 (x 9))])) (q (q (h 10 (.bSl [.int .i64 0] 1 [0]) (c1 (i 112))) (q (cl 11 15 (c1 (x 10))) (s [(4,ix 1 (x 11)),(3,ix 0 (x 11))]))) (q (q (h 12 (.bSl
 [.int .u8 0] 3 [0,1,2]) (c3 (.cst (.int .u8 65)) (.cst (.int .u8 66)) (.cst (.int .u8 97)))) (q (h 13 .frz (c1 (x 12))) (q (cl 14 20 (c1 (x 13))) (s [(6,ix
 1 (x 14)),(5,ix 0 (x 14))])))) (q (q (h 15 (.bSl [.int .u8 0] 3 [0,1,2]) (c3 (.cst (.int .u8 65)) (.cst (.int .u8 66)) (.cst (.int .u8 97)))) (q (h 16
 .frz (c1 (x 15))) (q (cl 17 22 (c1 (x 16))) (s [(8,ix 1 (x 17)),(7,ix 0 (x 17))])))) (q (q (.hv [(19,p (p (p (p (p (p (b .neq (x 2) (i 0)) (.cst (.bool
 true)) (b .neq (x 4) (i 0))) (.cst (.bool true)) (b .neq (x 6) (i 0))) (.cst (.bool true)) (b .neq (x 8) (i 0))) (.cst (.bool true)) (b .neq (x 7) (i 2)))
 (.cst (.bool true)) (b .neq (x 3) (.cst (.string ⟨ #[49,50] ⟩)))) (.cst (.tuple #[])) (x 5)),(18,p (p (p (p (p (b .neq (x 2) (i 0)) (.cst (.bool true)) (b
 .neq (x 4) (i 0))) (.cst (.bool true)) (b .neq (x 6) (i 0))) (.cst (.bool true)) (b .neq (x 8) (i 0))) (.cst (.bool true)) (b .neq (x 7) (i 2))) (.cst (.bool
 true)) (b .neq (x 3) (.cst (.string ⟨ #[49,50] ⟩))))] [] [(p (p (p (p (p (b .neq (x 2) (i 0)) (.cst (.bool true)) (b .neq (x 4) (i 0))) (.cst (.bool true))
 (b .neq (x 6) (i 0))) (.cst (.bool true)) (b .neq (x 8) (i 0))) (.cst (.bool true)) (b .neq (x 7) (i 2))) (.cst (.bool true)) (b .neq (x 3) (.cst (.string ⟨
 #[49,50] ⟩))),false)] (some 20) (.bSl [.int .i64 0] 2 [0,1]) (c2 (i 1) (i 810))) (q (.hv [] [] [(x 18,false)] (some 21) (.call false) (c3 (.cst (.func
 (.func 17) #[] #[])) (x 19) (x 20))) (q (.hv [(23,p (p (x 18) (.cst (.bool true)) (n1 (.un .not) (x 21))) (.cst (.tuple #[])) (x 1)),(22,p (x 18) (.cst
 (.bool true)) (n1 (.un .not) (x 21)))] [] [(p (x 18) (.cst (.bool true)) (n1 (.un .not) (x 21)),false)] (some 24) (.bSl [.int .i64 0] 6 [0,1,2,3,4,5])
 (c (i 1) (c (i 624) (c (i 434) (c3 (i 632) (i 282) (i 200)))))) (q (.hv [] [] [(x 22,false)] (some 25) (.call false) (c3 (.cst (.func (.func 17) #[] #[])) (x
 23) (x 24))) (.cond (p (x 22) (.cst (.bool true)) (n1 (.un .not) (x 25))) (q (s [(0,.cst (.bool false))]) .ret) .skip))))) (q (q (h 26 (.bSl [.int .i64 0] 6
 [0,1,2,3,4,5]) (c (i 924) (c (i 387) (c (i 700) (c3 (i 208) (i 213) (i 302)))))) (q (cl 27 23 (c2 (x 26) (.cst (.string ⟨ #[231,101,11,97,205,2]
 ⟩)))) (q (.hv [(28,x 27)] [] [(x 27,true)] (some 29) (.bSl [.int .i64 0] 2 [0,1]) (c2 (i 901) (i 65))) (q (.hv [] [] [(x 28,true)] (some 30) (.call false)
 (c3 (.cst (.func (.func 23) #[] #[])) (x 29) (.cst (.string ⟨ #[65] ⟩)))) (q (.hv [(31,p (x 28) (x 30) (.cst (.bool false)))] [] [(p (x 28) (x 30) (.cst
 (.bool false)),true)] (some 32) (.bSl [.int .i64 0] 6 [0,1,2,3,4,5]) (c (i 901) (c (i 1) (c (i 2) (c3 (i 3) (i 4) (i 5)))))) (q (.hv [] [] [(x 31,
 true)] (some 33) (.call false) (c3 (.cst (.func (.func 23) #[] #[])) (x 32) (.cst (.string ⟨ #[1,2,3,4,5] ⟩)))) (q (.hv [(34,p (x 31) (x 33) (.cst (.bool
 false)))] [] [(p (x 31) (x 33) (.cst (.bool false)),true)] (some 35) (.bSl [.int .i64 0] 1 [0]) (c1 (i 870))) (q (.hv [] [] [(x 34,true)] (some 36) (.call
 false) (c3 (.cst (.func (.func 23) #[] #[])) (x 35) (.cst (.string ⟨ #[59] ⟩)))) (s [(0,p (x 34) (x 36) (.cst (.bool false)))]))))))))) .ret))))))
def y7:CF:=⟨0,37,[(.var 0)],Ei,.plain⟩
def LS:List Nat:=[0,1,2,3,4,5,6,7,8,10,14,15,19,20,21,25,26,27,52,53,54,55,58,59,60,61,64,65,66,67,68,70,71,72,74,75,76]
def Ck:Stm:=
 q (s [(2,i 0),(1,.cst (.slice none 0 0))]) (q (.cond (b .gtr (n1 .lenS (x 0)) (i 4096)) (q (s [(2,i 4),(1,.cst (.slice none 0 0))]) .ret) .skip) (q (q (s
 [(7,i 0),(6,n1 .lenS (x 0))]) (.block 0 (.loop (q (.cond (b .lss (x 7) (x 6)) .skip (.exit 0)) (q (.block 1 (q (s [(3,x 7)]) (.cond (p (b .lss (n2 .idxS
 (x 0) (x 3)) (.cst (.int .u8 48))) (.cst (.bool true)) (b .gtr (n2 .idxS (x 0) (x 3)) (.cst (.int .u8 57)))) (q (s [(2,i 6),(1,.cst (.slice none 0 0))])
 .ret) .skip))) (s [(7,b .add (x 7) (i 1))])))))) (q (s [(4,.cst (.slice none 0 0))]) (q (q (s [(5,i 0)]) (.block 2 (.loop (q (.cond (b .lss (x 5) (n1 .lenS
 (x 0))) .skip (.exit 2)) (q (.block 3 (q (.hv [(8,x 4)] [] [] (some 9) (.call false) (c2 (.cst (.func (.func 24) #[] #[])) (.node (.slS true true) (c3 (x 0)
 (x 5) (n2 (.minmax false) (b .add (x 5) (i 44)) (n1 .lenS (x 0))))))) (q (h 10 (.app 1 [.int .i64 0]) (c2 (x 8) (x 9))) (s [(4,x 10)])))) (s [(5,b .add (x
 5) (i 44))])))))) (q (s [(2,i 0),(1,x 4)]) .ret)))))
def zL:CF:=⟨1,11,[(.var 1),(.var 2)],Ck,.plain⟩
def Kj:List Nat:=[0,2,3,4,5,6,11,12,32,41,42]
def Ez:Stm:=
 q (s [(2,i 0),(1,.cst (.slice none 0 0))]) (q (.cond (b .gtr (n1 .lenS (x 0)) (i 4096)) (q (s [(2,i 4),(1,.cst (.slice none 0 0))]) .ret) .skip) (q (q (s
 [(3,i 0)]) (.block 0 (.loop (q (.cond (b .lss (x 3) (n1 .lenS (x 0))) .skip (.exit 0)) (q (.block 1 (.cond (p (b .lss (n2 .idxS (x 0) (x 3)) (.cst (.int .u8
 48))) (.cst (.bool true)) (b .gtr (n2 .idxS (x 0) (x 3)) (.cst (.int .u8 57)))) (q (s [(2,i 6),(1,.cst (.slice none 0 0))]) .ret) .skip)) (s [(3,b .add (x
 3) (i 1))])))))) (q (s [(4,.cst (.slice none 0 0))]) (q (q (s [(5,i 0)]) (.block 2 (.loop (q (.cond (b .lss (x 5) (n1 .lenS (x 0))) .skip (.exit 2)) (q
 (.block 3 (q (.hv [(6,x 4)] [] [] (some 7) (.call false) (c2 (.cst (.func (.func 25) #[] #[])) (.node (.slS true true) (c3 (x 0) (x 5) (n2 (.minmax false) (b
 .add (x 5) (i 44)) (n1 .lenS (x 0))))))) (q (h 8 (.app 1 [.int .i64 0]) (c2 (x 6) (x 7))) (s [(4,x 8)])))) (s [(5,b .add (x 5) (i 44))])))))) (q (s [(2,i
 0),(1,x 4)]) .ret)))))
def xZ:CF:=⟨1,9,[(.var 1),(.var 2)],Ez,.plain⟩
def Jr:List Nat:=[0,2,3,4,5,6,32,41,42]
def Dy:Stm:=
 q (s [(2,i 0),(1,.cst (.string ⟨ #[] ⟩))]) (q (.cond (b .gtr (n1 .len (x 0)) (i 8192)) (q (s [(2,i 4),(1,.cst (.string ⟨ #[] ⟩))]) .ret) .skip) (q (q (s
 [(8,i 0),(7,n1 .len (x 0)),(6,x 0)]) (.block 0 (.loop (q (.cond (b .lss (x 8) (x 7)) .skip (.exit 0)) (q (.block 1 (q (s [(3,ld (n2 (.iAddr 1) (x 6) (x
 8)))]) (.cond (p (b .lss (x 3) (i 0)) (.cst (.bool true)) (b .geq (x 3) (i 900))) (q (s [(2,i 3),(1,.cst (.string ⟨ #[] ⟩))]) .ret) .skip))) (s [(8,b .add
 (x 8) (i 1))])))))) (q (q (cl 9 26 (c1 (x 0))) (s [(5,ix 1 (x 9)),(4,ix 0 (x 9))])) (q (.cond (n1 (.un .not) (x 5)) (q (s [(2,i 22),(1,.cst (.string ⟨
 #[] ⟩))]) .ret) .skip) (q (s [(2,i 0),(1,x 4)]) .ret)))))
def yW:CF:=⟨1,10,[(.var 1),(.var 2)],Dy,.plain⟩
def HV:List Nat:=[0,2,3,5,6,7,11,12,13,26]
def L4:Stm:=
 q (s [(2,i 0),(1,.cst (.string ⟨ #[] ⟩))]) (q (.cond (b .gtr (n1 .len (x 0)) (i 8192)) (q (s [(2,i 4),(1,.cst (.string ⟨ #[] ⟩))]) .ret) .skip) (q (q (s
 [(3,i 0)]) (.block 0 (.loop (q (.cond (b .lss (x 3) (n1 .len (x 0))) .skip (.exit 0)) (q (.block 1 (.cond (p (b .lss (ld (n2 (.iAddr 1) (x 0) (x 3))) (i 0))
 (.cst (.bool true)) (b .gtr (ld (n2 (.iAddr 1) (x 0) (x 3))) (i 899))) (q (s [(2,i 3),(1,.cst (.string ⟨ #[] ⟩))]) .ret) .skip)) (s [(3,b .add (x 3) (i
 1))])))))) (q (s [(4,.cst (.string ⟨ #[] ⟩))]) (q (q (s [(5,i 0)]) (.block 2 (.loop (q (.cond (b .lss (x 5) (n1 .len (x 0))) .skip (.exit 2)) (q (.block 3
 (q (s [(6,.node (.sl 1 true true false) (c3 (x 0) (x 5) (n2 (.minmax false) (b .add (x 5) (i 15)) (n1 .len (x 0)))))]) (q (q (cl 9 27 (c1 (x 6))) (s [(7,x
 9)])) (q (s [(8,b .geq (b .add (x 5) (i 15)) (n1 .len (x 0)))]) (q (q (.hv [(10,p (p (p (b .neq (n2 .idxS (x 7) (i 0)) (.cst (.int .u8 49))) (.cst (.bool
 true)) (b .gtr (n1 .lenS (x 7)) (i 45))) (.cst (.bool true)) (b .eql (n1 .lenS (x 7)) (i 1))) (.cst (.bool true)) (p (n1 (.un .not) (x 8)) (b .neq (n1 .lenS
 (x 7)) (i 45)) (.cst (.bool false))))] [] [(p (p (p (b .neq (n2 .idxS (x 7) (i 0)) (.cst (.int .u8 49))) (.cst (.bool true)) (b .gtr (n1 .lenS (x 7)) (i 45)))
 (.cst (.bool true)) (b .eql (n1 .lenS (x 7)) (i 1))) (.cst (.bool true)) (p (n1 (.un .not) (x 8)) (b .neq (n1 .lenS (x 7)) (i 45)) (.cst (.bool false))),
 false)] (some 11) (.call false) (c2 (.cst (.func (.func 25) #[] #[])) (n2 (.slS true false) (x 7) (i 1)))) (q (.hv [] [] [(x 10,false)] (some 12) (.call
 false) (c3 (.cst (.func (.func 28) #[] #[])) (x 11) (x 6))) (.cond (p (x 10) (.cst (.bool true)) (n1 (.un .not) (x 12))) (q (s [(2,i 22),(1,.cst (.string ⟨
 #[] ⟩))]) .ret) .skip))) (s [(4,b .add (x 4) (n2 (.slS true false) (x 7) (i 1)))])))))) (s [(5,b .add (x 5) (i 15))])))))) (q (s [(2,i 0),(1,x 4)])
 .ret)))))
def Fa:CF:=⟨1,13,[(.var 1),(.var 2)],L4,.plain⟩
def Hw:List Nat:=[0,2,3,4,5,6,7,8,9,46,74,77,79]
def D6:Stm:=
 q (s [(2,.cst (.bool false))]) (q (.cond (b .neq (n1 .len (x 0)) (n1 .len (x 1))) (q (s [(2,.cst (.bool false))]) .ret) .skip) (q (q (s [(3,i 0)]) (.block 0
 (.loop (q (.cond (b .lss (x 3) (n1 .len (x 0))) .skip (.exit 0)) (q (.block 1 (.cond (b .neq (ld (n2 (.iAddr 1) (x 0) (x 3))) (ld (n2 (.iAddr 1) (x 1) (x
 3)))) (q (s [(2,.cst (.bool false))]) .ret) .skip)) (s [(3,b .add (x 3) (i 1))])))))) (q (s [(2,.cst (.bool true))]) .ret)))
def yi:CF:=⟨2,4,[(.var 2)],D6,.plain⟩
def Kx:List Nat:=[0,1,4,5]
def DK:Stm:=
 q (q (h 1 (.alloc [.slice none 0 0]) .nil) (h 2 (.alloc [.int .i64 0]) .nil)) (q (.cond (b .gtr (n1 .len (x 0)) (i 8192)) (q (q (.hv [] [] [] none (.st 1) (c2
 (x 1) (.cst (.slice none 0 0)))) (.hv [] [] [] none (.st 1) (c2 (x 2) (i 4)))) .ret) .skip) (q (q (s [(7,i 0),(6,n1 .len (x 0)),(5,x 0)]) (.block 0
 (.loop (q (.cond (b .lss (x 7) (x 6)) .skip (.exit 0)) (q (.block 1 (q (s [(3,ld (n2 (.iAddr 1) (x 5) (x 7)))]) (.cond (p (b .lss (x 3) (i 0)) (.cst (.bool
 true)) (b .gtr (x 3) (i 928))) (q (q (.hv [] [] [] none (.st 1) (c2 (x 1) (.cst (.slice none 0 0)))) (.hv [] [] [] none (.st 1) (c2 (x 2) (i 3)))) .ret)
 .skip))) (s [(7,b .add (x 7) (i 1))])))))) .skip))
def Ds:Stm:=
 s [(8,n2 (.mkF 29 0) (x 1) (x 2))]
def E8:Stm:=
 q (q (.hv [(9,n1 (.build [.slice none 0 0,.int .i64 0,.int .i64 0,.int .i64 0,.slice none 0 0] [(0,1)]) (x 0))] [] [] (some 4) (.alloc [.slice none 0 0,
 .int .i64 0,.int .i64 0,.int .i64 0,.slice none 0 0]) .nil) (.hv [] [] [] none (.st 5) (c2 (x 4) (x 9)))) (q (.block 2 (.loop (q (.cond (b .lss (ld (fa 1
 (x 4))) (n1 .len (x 0))) .skip (.exit 2)) (.block 3 (.hv [] [] [] none (.call false) (c2 (.cst (.func (.func 30) #[] #[])) (x 4))))))) (q (q (.hv [] [] []
 none (.st 1) (c2 (x 1) (ld (fa 4 (x 4))))) (.hv [] [] [] none (.st 1) (c2 (x 2) (i 0)))) .ret))
def cf18:CF:=⟨1,10,[(.node (.ld 1 false) (.cons (.var 1) .nil)),(.node (.ld 1 false) (.cons (.var 2) .nil))],DK,.dfr Ds 8 E8⟩
def K9:List Nat:=[0,2,3,5,6,10,11,12,23,25]
def JL:Stm:=
 q (s [(2,i 0),(1,.cst (.slice none 0 0))]) (q (.cond (b .gtr (n1 .len (x 0)) (i 8192)) (q (s [(2,i 4),(1,.cst (.slice none 0 0))]) .ret) .skip) (q (q (s
 [(3,i 0)]) (.block 0 (.loop (q (.cond (b .lss (x 3) (n1 .len (x 0))) .skip (.exit 0)) (q (.block 1 (.cond (p (b .lss (ld (n2 (.iAddr 1) (x 0) (x 3))) (i 0))
 (.cst (.bool true)) (b .gtr (ld (n2 (.iAddr 1) (x 0) (x 3))) (i 928))) (q (s [(2,i 3),(1,.cst (.slice none 0 0))]) .ret) .skip)) (s [(3,b .add (x 3) (i
 1))])))))) (q (s [(4,.cst (.slice none 0 0))]) (q (s [(6,i 0),(5,i 0)]) (q (q (s [(7,i 0)]) (.block 2 (.loop (q (.cond (b .lss (x 7) (n1 .len (x 0)))
 .skip (.exit 2)) (.block 3 (q (s [(8,ld (n2 (.iAddr 1) (x 0) (x 7)))]) (q (s [(7,b .add (x 7) (i 1))]) (q (.cond (b .lss (x 8) (i 900)) (q (q (cl 16 31 (c3
 (x 8) (x 5) (x 6))) (s [(12,ix 3 (x 16)),(11,ix 2 (x 16)),(10,ix 1 (x 16)),(9,ix 0 (x 16))])) (q (.cond (n1 (.un .not) (x 12)) (q (s [(2,i 22),(1,
 .cst (.slice none 0 0))]) .ret) .skip) (q (q (h 17 (.app 1 [.int .u8 0]) (c2 (x 4) (x 9))) (s [(4,x 17)])) (q (s [(6,x 11),(5,x 10)]) (.exit 3))))) .skip)
 (q (s [(6,i 0)]) (.cond (b .eql (x 8) (i 900)) (s [(5,i 0)]) (.cond (b .eql (x 8) (i 913)) (q (.cond (b .eql (x 7) (n1 .len (x 0))) (q (s [(2,i 10),(1,
 .cst (.slice none 0 0))]) .ret) .skip) (q (.cond (b .gtr (ld (n2 (.iAddr 1) (x 0) (x 7))) (i 255)) (q (s [(2,i 22),(1,.cst (.slice none 0 0))]) .ret)
 .skip) (q (q (.hv [(18,x 4)] [] [] (some 19) (.bSl [.int .u8 0] 1 [0]) (c1 (n1 (.cvt .u8) (ld (n2 (.iAddr 1) (x 0) (x 7)))))) (q (h 20 (.app 1 [.int .u8 0])
 (c2 (x 18) (x 19))) (s [(4,x 20)]))) (s [(7,b .add (x 7) (i 1))])))) (.cond (p (p (b .eql (x 8) (i 901)) (.cst (.bool true)) (b .eql (x 8) (i 902))) (.cst
 (.bool true)) (b .eql (x 8) (i 924))) (q (q (cl 21 32 (c1 (n2 (.sl 1 true false false) (x 0) (x 7)))) (s [(13,x 21)])) (q (q (cl 22 33 (c2 (x 8) (.node (.sl
 1 true true false) (c3 (x 0) (x 7) (b .add (x 7) (x 13)))))) (s [(15,ix 1 (x 22)),(14,ix 0 (x 22))])) (q (.cond (b .neq (x 15) (i 0)) (q (s [(2,x 15),(1,
 .cst (.slice none 0 0))]) .ret) .skip) (q (q (h 23 (.app 1 [.int .u8 0]) (c2 (x 4) (x 14))) (s [(4,x 23)])) (q (s [(7,b .add (x 7) (x 13))]) (q (.cond (p (b
 .lss (x 7) (n1 .len (x 0))) (b .eql (ld (n2 (.iAddr 1) (x 0) (x 7))) (i 913)) (.cst (.bool false))) (q (s [(2,i 22),(1,.cst (.slice none 0 0))]) .ret)
 .skip) (s [(5,i 0)]))))))) (q (s [(2,i 22),(1,.cst (.slice none 0 0))]) .ret))))))))))))) (q (s [(2,i 0),(1,x 4)]) .ret))))))
def GQ:CF:=⟨1,24,[(.var 1),(.var 2)],JL,.plain⟩
def Ks:List Nat:=[0,2,3,4,5,6,7,8,9,10,11,12,13,14,15,16,54,63,79,85,86,102,111,119]
def EE:Stm:=
 q (s [(2,i 0),(1,.cst (.slice none 0 0))]) (q (.cond (b .gtr (n1 .len (x 0)) (i 4096)) (q (s [(2,i 4),(1,.cst (.slice none 0 0))]) .ret) .skip) (q (q (cl
 9 34 (c1 (x 0))) (s [(3,x 9)])) (q (q (h 10 (.bSl [.int .i64 0,.int .i64 0,.int .i64 0,.int .i64 0] 1 [0]) (c1 (n1 (.build [.int .i64 0,.int .i64 0,.int
 .i64 0,.int .i64 0] [(0,1)]) (i 0)))) (s [(4,x 10)])) (q (q (cl 11 35 (c2 (x 3) (n1 (.ld 4 true) (n2 (.iAddr 4) (x 4) (i 0))))) (s [(5,x 11)])) (q (q (h
 12 (.mkSl [.int .i64 0]) (c2 (i 0) (x 5))) (s [(6,x 12)])) (q (.block 0 (.loop (q (.cond (b .gtr (x 5) (i 0)) .skip (.exit 0)) (.block 1 (q (s [(5,b .sub (x
 5) (i 1))]) (q (q (cl 13 36 (c3 (x 3) (x 4) (x 5))) (s [(8,ix 1 (x 13)),(7,ix 0 (x 13))])) (q (q (.hv [(14,x 6)] [] [] (some 15) (.bSl [.int .i64 0] 1
 [0]) (c1 (x 7))) (q (h 16 (.app 1 [.int .i64 0]) (c2 (x 14) (x 15))) (s [(6,x 16)]))) (s [(4,x 8)])))))))) (q (s [(2,i 0),(1,x 6)]) .ret)))))))
def x9:CF:=⟨1,17,[(.var 1),(.var 2)],EE,.plain⟩
def KI:List Nat:=[0,2,3,4,5,6,7,8,9,14,16,21,23,32,35,37,38]
def C8:Stm:=
 q (s [(2,i 0),(1,.cst (.slice none 0 0))]) (q (.cond (b .gtr (n1 .len (x 0)) (i 4096)) (q (s [(2,i 4),(1,.cst (.slice none 0 0))]) .ret) .skip) (q (q (cl
 15 37 .nil) (s [(3,x 15)])) (q (s [(4,.cst (.slice none 0 0))]) (q (q (s [(5,i 0)]) (.block 0 (.loop (q (.cond (b .leq (x 5) (n1 .len (x 0))) .skip (.exit
 0)) (q (.block 1 (q (s [(6,.cst (.slice none 0 0))]) (q (q (s [(7,i 0)]) (.block 2 (.loop (q (.cond (b .leq (x 7) (i 8)) .skip (.exit 2)) (q (.block 3 (q
 (.hv [(16,x 6)] [] [] (some 17) (.bSl [.slice none 0 0] 1 [0]) (c1 (.cst (.slice none 0 0)))) (q (h 18 (.app 1 [.slice none 0 0]) (c2 (x 16) (x 17))) (s [(6,
 x 18)])))) (s [(7,b .add (x 7) (i 1))])))))) (q (.hv [(19,x 4)] [] [] (some 20) (.bSl [.slice none 0 0] 1 [0]) (c1 (x 6))) (q (h 21 (.app 1 [.slice none 0
 0]) (c2 (x 19) (x 20))) (s [(4,x 21)])))))) (s [(5,b .add (x 5) (i 1))])))))) (q (q (s [(8,b .sub (n1 .len (x 0)) (i 1))]) (.block 4 (.loop (q (.cond (b
 .geq (x 8) (i 0)) .skip (.exit 4)) (q (.block 5 (q (q (cl 22 38 (c3 (x 0) (x 8) (x 4))) (s [(9,x 22)])) (q (q (s [(10,i 0)]) (.block 6 (.loop (q (.cond (b
 .lss (x 10) (i 8)) .skip (.exit 6)) (q (.block 7 (q (.hv [(24,x 10),(23,ld (n2 (.iAddr 1) (x 4) (x 8)))] [] [] (some 25) (.callK 1) (c (n2 (.iAddr 1) (x 4)
 (x 8)) (c (.cst (.func (.func 39) #[] #[])) (c (x 0) (c (x 8) (c3 (x 10) (x 4) (x 9))))))) (.hv [] [] [] none (.st 1) (c2 (n2 (.iAddr 1) (x 23) (x 24)) (x
 25))))) (s [(10,b .add (x 10) (i 1))])))))) (q (.hv [] [] [] none (.st 1) (c2 (n2 (.iAddr 1) (ld (n2 (.iAddr 1) (x 4) (x 8))) (i 8)) (x 9))) (q (s [(11,i
 0)]) (.block 8 (.loop (q (.cond (b .lss (x 11) (i 8)) .skip (.exit 8)) (q (.block 9 (q (s [(12,i 0)]) (.block 10 (.loop (q (.cond (b .leq (x 12) (i 8)) .skip
 (.exit 10)) (q (.block 11 (q (s [(13,i 0)]) (.block 12 (.loop (q (.cond (b .lss (x 13) (i 8)) .skip (.exit 12)) (q (.block 13 (.cond (b .geq (ld (n2 (.iAddr
 1) (ld (n2 (.iAddr 1) (x 3) (x 12))) (x 13))) (i 0)) (q (q (.hv [(27,ld (n2 (.iAddr 1) (ld (n2 (.iAddr 1) (x 4) (x 8))) (x 13)))] [] [] (some 26) (.bSl [.int
 .i64 0] 1 [0]) (c1 (ld (n2 (.iAddr 1) (ld (n2 (.iAddr 1) (x 3) (x 12))) (x 13))))) (q (h 28 .callC (c3 (.cst (.func (.func 40) #[] #[])) (x 26) (x 27))) (s
 [(14,x 28)]))) (q (cl 29 41 (c2 (x 14) (ld (n2 (.iAddr 1) (ld (n2 (.iAddr 1) (x 4) (x 8))) (x 12))))) (.cond (x 29) (.hv [] [] [] none (.st 1) (c2 (n2
 (.iAddr 1) (ld (n2 (.iAddr 1) (x 4) (x 8))) (x 12)) (x 14))) .skip))) .skip)) (s [(13,b .add (x 13) (i 1))]))))))) (s [(12,b .add (x 12) (i 1))]))))))) (s
 [(11,b .add (x 11) (i 1))])))))))))) (s [(8,b .sub (x 8) (i 1))])))))) (q (s [(2,i 0),(1,ld (n2 (.iAddr 1) (ld (n2 (.iAddr 1) (x 4) (i 0))) (i 0)))])
 .ret))))))
def y5:CF:=⟨1,30,[(.var 1),(.var 2)],C8,.plain⟩
def Ki:List Nat:=[0,2,3,4,5,6,7,8,9,10,11,12,13,14,15,19,30,31,32,33,35,36,47,55,56,62,97,104,105,114]
def EM:Stm:=
 q (s [(2,i 0),(1,i 0)]) (q (q (cl 5 20 (c1 (x 0))) (s [(4,ix 1 (x 5)),(3,ix 0 (x 5))])) (q (s [(2,x 4),(1,n1 .len (x 3))]) .ret))
def ye:CF:=⟨1,6,[(.var 1),(.var 2)],EM,.plain⟩
def Jo:List Nat:=[0,2,3,4,5,8]
def CJ:Stm:=
 q (s [(2,.cst (.bool false))]) (q (q (cl 5 18 (c1 (x 0))) (s [(4,ix 1 (x 5)),(3,ix 0 (x 5))])) (q (s [(2,p (b .eql (n1 .b2s (x 3)) (x 1)) (b .eql (x 4) (i
 0)) (.cst (.bool false)))]) .ret))
def yK:CF:=⟨2,6,[(.var 2)],CJ,.plain⟩
def HF:List Nat:=[0,1,4,5,6,9]
def EC:Stm:=
 q (s [(1,.cst (.slice none 0 0))]) (q (q (cl 4 42 (c1 (b .add (.cst (.string ⟨ #[49] ⟩)) (x 0)))) (q (.hv [(6,ix 1 (x 4)),(5,ix 0 (x 4))] [] [] (some 2)
 (.alloc [.bool false,.slice none 0 0]) .nil) (q (.hv [] [] [] none (.st 2) (c2 (x 2) (x 5))) (.sets [] [x 6])))) (q (q (cl 7 43 (c2 (n1 (.ld 2 true) (x 2))
 (i 900))) (.sets [(3,ix 0 (x 7))] [ix 1 (x 7)])) (q (s [(1,x 3)]) .ret)))
def zm:CF:=⟨1,8,[(.var 1)],EC,.plain⟩
def JA:List Nat:=[0,2,3,5,10,11,12,15]
def EI:Stm:=
 q (s [(1,.cst (.slice none 0 0))]) (q (q (h 9 (.bSl [.int .i64 0] 1 [0]) (c1 (i 1))) (s [(2,x 9)])) (q (q (s [(3,i 0)]) (.block 0 (.loop (q (.cond (b .lss (x
 3) (n1 .lenS (x 0))) .skip (.exit 0)) (q (.block 1 (q (.hv [(10,x 2)] [] [] (some 11) (.bSl [.int .i64 0] 1 [0]) (c1 (n1 (.cvt .i64) (b .sub (n2 .idxS (x 0)
 (x 3)) (.cst (.int .u8 48)))))) (q (h 12 (.app 1 [.int .i64 0]) (c2 (x 10) (x 11))) (s [(2,x 12)])))) (s [(3,b .add (x 3) (i 1))])))))) (q (s [(4,.cst
 (.slice none 0 0))]) (q (.block 2 (.loop (q (.cond (b .gtr (n1 .len (x 2)) (i 0)) .skip (.exit 2)) (.block 3 (q (s [(5,.cst (.slice none 0 0))]) (q (s [(6,i
 0)]) (q (q (s [(7,i 0)]) (.block 4 (.loop (q (.cond (b .lss (x 7) (n1 .len (x 2))) .skip (.exit 4)) (q (.block 5 (q (s [(6,b .add (b .mul (i 10) (x 6)) (ld
 (n2 (.iAddr 1) (x 2) (x 7))))]) (q (.cond (p (b .gtr (n1 .len (x 5)) (i 0)) (.cst (.bool true)) (b .geq (x 6) (i 900))) (q (.hv [(13,x 5)] [] [] (some 14)
 (.bSl [.int .i64 0] 1 [0]) (c1 (b .quo (x 6) (i 900)))) (q (h 15 (.app 1 [.int .i64 0]) (c2 (x 13) (x 14))) (s [(5,x 15)]))) .skip) (s [(6,b .rem (x 6) (i
 900))])))) (s [(7,b .add (x 7) (i 1))])))))) (q (s [(8,.cst (.slice none 0 0))]) (q (q (.hv [(16,x 8)] [] [] (some 17) (.bSl [.int .i64 0] 1 [0]) (c1 (x
 6))) (q (h 18 (.app 1 [.int .i64 0]) (c2 (x 16) (x 17))) (s [(8,x 18)]))) (q (q (h 19 (.app 1 [.int .i64 0]) (c2 (x 8) (x 4))) (s [(8,x 19)])) (q (s [(4,x
 8)]) (s [(2,x 5)])))))))))))) (q (s [(1,x 4)]) .ret)))))
def xS:CF:=⟨1,20,[(.var 1)],EI,.plain⟩
def HH:List Nat:=[0,2,3,4,5,6,7,8,9,10,17,23,24,48,51,52,55,57,58,61]
def CY:Stm:=
 q (s [(2,.cst (.bool false)),(1,.cst (.string ⟨ #[] ⟩))]) (q (s [(3,.cst (.slice none 0 0))]) (q (q (s [(4,i 0)]) (.block 0 (.loop (q (.cond (b .lss (x 4)
 (n1 .len (x 0))) .skip (.exit 0)) (q (.block 1 (q (s [(5,n2 (.minmax false) (b .add (x 4) (i 15)) (n1 .len (x 0)))]) (q (.cond (b .eql (ld (n2 (.iAddr 1) (x
 0) (x 4))) (i 0)) (q (s [(2,.cst (.bool false)),(1,.cst (.string ⟨ #[] ⟩))]) .ret) .skip) (q (q (cl 8 44 (c2 (.node (.sl 1 true true false) (c3 (x 0) (x 4)
 (x 5))) (i 900))) (q (.hv [(10,ix 1 (x 8)),(9,ix 0 (x 8))] [] [] (some 6) (.alloc [.bool false,.slice none 0 0]) .nil) (q (.hv [] [] [] none (.st 2) (c2
 (x 6) (x 9))) (.sets [] [x 10])))) (q (q (cl 11 45 (c1 (n1 (.ld 2 true) (x 6)))) (s [(7,x 11)])) (q (.cond (p (p (b .lss (n1 .lenS (x 7)) (i 2)) (.cst (.bool
 true)) (b .gtr (n1 .lenS (x 7)) (i 45))) (.cst (.bool true)) (b .neq (n2 .idxS (x 7) (i 0)) (.cst (.int .u8 49)))) (q (s [(2,.cst (.bool false)),(1,.cst
 (.string ⟨ #[] ⟩))]) .ret) .skip) (q (.cond (p (b .lss (x 5) (n1 .len (x 0))) (b .neq (n1 .lenS (x 7)) (i 45)) (.cst (.bool false))) (q (s [(2,.cst (.bool
 false)),(1,.cst (.string ⟨ #[] ⟩))]) .ret) .skip) (q (h 12 (.appS [.int .u8 0]) (c2 (x 3) (n2 (.slS true false) (x 7) (i 1)))) (s [(3,x 12)]))))))))) (s
 [(4,b .add (x 4) (i 15))])))))) (q (s [(2,.cst (.bool true)),(1,n1 .b2s (x 3))]) .ret)))
def zh:CF:=⟨1,13,[(.var 1),(.var 2)],CY,.plain⟩
def Ix:List Nat:=[0,2,3,4,5,6,7,9,31,32,33,35,61]
def IS:Stm:=
 q (s [(1,.cst (.string ⟨ #[] ⟩))]) (q (q (h 9 (.bSl [.int .i64 0] 1 [0]) (c1 (i 0))) (s [(2,x 9)])) (q (q (s [(3,i 0)]) (.block 0 (.loop (q (.cond (b .lss (x
 3) (n1 .len (x 0))) .skip (.exit 0)) (q (.block 1 (q (s [(4,ld (n2 (.iAddr 1) (x 0) (x 3)))]) (q (q (s [(5,b .sub (n1 .len (x 2)) (i 1))]) (.block 2 (.loop
 (q (.cond (b .geq (x 5) (i 0)) .skip (.exit 2)) (q (.block 3 (q (s [(4,b .add (x 4) (b .mul (i 900) (ld (n2 (.iAddr 1) (x 2) (x 5)))))]) (q (.hv [] [] []
 none (.st 1) (c2 (n2 (.iAddr 1) (x 2) (x 5)) (b .rem (x 4) (i 10)))) (s [(4,b .quo (x 4) (i 10))])))) (s [(5,b .sub (x 5) (i 1))])))))) (.block 4 (.loop (q
 (.cond (b .gtr (x 4) (i 0)) .skip (.exit 4)) (.block 5 (q (s [(6,.cst (.slice none 0 0))]) (q (q (.hv [(10,x 6)] [] [] (some 11) (.bSl [.int .i64 0] 1 [0])
 (c1 (b .rem (x 4) (i 10)))) (q (h 12 (.app 1 [.int .i64 0]) (c2 (x 10) (x 11))) (s [(6,x 12)]))) (q (q (h 13 (.app 1 [.int .i64 0]) (c2 (x 6) (x 2))) (s [(6,
 x 13)])) (q (s [(2,x 6)]) (s [(4,b .quo (x 4) (i 10))])))))))))))) (s [(3,b .add (x 3) (i 1))])))))) (q (s [(7,.cst (.string ⟨ #[] ⟩))]) (q (q (s [(8,i
 0)]) (.block 6 (.loop (q (.cond (b .lss (x 8) (n1 .len (x 2))) .skip (.exit 6)) (q (.block 7 (q (.hv [(14,x 7)] [] [] (some 15) (.bSl [.int .u8 0] 1 [0]) (c1
 (n1 (.cvt .u8) (b .add (i 48) (ld (n2 (.iAddr 1) (x 2) (x 8))))))) (s [(7,b .add (x 14) (n1 .b2s (x 15)))]))) (s [(8,b .add (x 8) (i 1))])))))) (q (s [(1,x
 7)]) .ret)))))
def Gy:CF:=⟨1,16,[(.var 1)],IS,.plain⟩
def J0:List Nat:=[0,2,3,4,5,6,7,8,9,10,44,47,48,51,61,68]
def JG:Stm:=
 q (s [(2,.cst (.bool false))]) (q (.cond (b .neq (n1 .len (x 0)) (n1 .len (x 1))) (q (s [(2,.cst (.bool false))]) .ret) .skip) (q (q (s [(3,i 0)]) (.block 0
 (.loop (q (.cond (b .lss (x 3) (n1 .len (x 0))) .skip (.exit 0)) (q (.block 1 (.cond (b .neq (ld (n2 (.iAddr 1) (x 0) (x 3))) (ld (n2 (.iAddr 1) (x 1) (x
 3)))) (q (s [(2,.cst (.bool false))]) .ret) .skip)) (s [(3,b .add (x 3) (i 1))])))))) (q (s [(2,.cst (.bool true))]) .ret)))
def GL:CF:=⟨2,4,[(.var 2)],JG,.plain⟩
def Jv:List Nat:=[0,1,4,5]
def Dd:Stm:=
 q (q (.hv [(6,ix 1 (n1 (.tas 47 [.int .i64 0]) (x 4))),(5,ix 0 (n1 (.tas 47 [.int .i64 0]) (x 4))),(4,x 4)] [] [] (some 2) (.alloc [.int .i64 0]) .nil) (q
 (.hv [] [] [] none (.st 1) (c2 (x 2) (x 5))) (s [(3,x 6)]))) (.cond (x 3) (q (.hv [(8,ld (fa 0 (x 2))),(7,fa 0 (x 2))] [] [] none (.st 1) (c2 (x 0) (.cst
 (.slice none 0 0)))) (q (.hv [] [] [] none (.st 1) (c2 (x 1) (x 8))) (.dist (x 0) (x 7)))) .skip)
def vP:CF:=⟨2,9,[],Dd,.rcv 4⟩
def LJ:List Nat:=[0,1,2,3,5,7,8,10,11]
def Ce:Stm:=
 q (s [(1,ld (n2 (.iAddr 1) (ld (fa 0 (n1 .nilChk (x 0)))) (ld (fa 1 (n1 .nilChk (x 0))))))]) (q (.hv [] [] [] none (.st 1) (c2 (fa 1 (n1 .nilChk (x 0))) (b
 .add (ld (fa 1 (n1 .nilChk (x 0)))) (i 1)))) (.block 0 (.cond (b .lss (x 1) (i 900)) (q (.hv [] [] [] none (.call false) (c3 (.cst (.func (.func 46) #[] #[]))
 (x 0) (b .quo (x 1) (i 30)))) (.hv [] [] [] none (.call false) (c3 (.cst (.func (.func 46) #[] #[])) (x 0) (b .rem (x 1) (i 30))))) (.cond (b .eql (x 1) (i
 900)) (.hv [] [] [] none (.st 2) (c2 (fa 2 (n1 .nilChk (x 0))) (n2 (.build [.int .i64 0,.int .i64 0] [(0,1),(1,1)]) (i 0) (i 0)))) (.cond (b .eql (x 1) (i
 913)) (.hv [] [] [] none (.call false) (c2 (.cst (.func (.func 47) #[] #[])) (x 0))) (.cond (p (p (b .eql (x 1) (i 901)) (.cst (.bool true)) (b .eql (x 1) (i
 924))) (.cst (.bool true)) (b .eql (x 1) (i 902))) (.hv [] [] [] none (.call false) (c3 (.cst (.func (.func 48) #[] #[])) (x 0) (x 1))) (.hv [] [] [] none
 .pan (c1 (n1 (.mkI 47) (n1 (.build [.int .i64 0] [(0,1)]) (i 22)))))))))))
def rQ:CF:=⟨1,2,[],Ce,.plain⟩
def Ka:List Nat:=[0,2]
def KL:Stm:=
 q (s [(6,.cst (.bool false)),(5,i 0),(4,i 0),(3,.cst (.slice none 0 0))]) (q (s [(7,.cst (.slice none 0 0))]) (q (q (s [(8,i 0)]) (.block 0 (.loop (q
 (.cond (b .lss (x 8) (i 2)) .skip (.exit 0)) (q (.block 1 (q (s [(9,b .quo (x 0) (i 30))]) (q (.cond (b .eql (x 8) (i 1)) (s [(9,b .rem (x 0) (i 30))])
 .skip) (q (q (cl 14 49 (c3 (x 1) (x 2) (x 9))) (s [(13,ix 3 (x 14)),(12,ix 2 (x 14)),(11,ix 1 (x 14)),(10,ix 0 (x 14))])) (q (.cond (n1 (.un .not) (x
 13)) (q (s [(6,.cst (.bool false)),(5,i 0),(4,i 0),(3,.cst (.slice none 0 0))]) .ret) .skip) (q (.cond (b .geq (x 10) (i 0)) (q (.hv [(15,x 7)] [] []
 (some 16) (.bSl [.int .u8 0] 1 [0]) (c1 (n1 (.cvt .u8) (x 10)))) (q (h 17 (.app 1 [.int .u8 0]) (c2 (x 15) (x 16))) (s [(7,x 17)]))) .skip) (s [(2,x 12),
 (1,x 11)]))))))) (s [(8,b .add (x 8) (i 1))])))))) (q (s [(6,.cst (.bool true)),(5,x 2),(4,x 1),(3,x 7)]) .ret)))
def Fl:CF:=⟨3,18,[(.var 3),(.var 4),(.var 5),(.var 6)],KL,.plain⟩
def Il:List Nat:=[0,1,2,6,7,8,9,10,11,12,13,14,15,16,31,40,43,44]
def IF:Stm:=
 q (s [(1,i 0)]) (q (s [(2,i 0)]) (q (.block 0 (.loop (q (.cond (p (b .lss (x 2) (n1 .len (x 0))) (b .lss (ld (n2 (.iAddr 1) (x 0) (x 2))) (i 900)) (.cst
 (.bool false))) .skip (.exit 0)) (.block 1 (s [(2,b .add (x 2) (i 1))]))))) (q (s [(1,x 2)]) .ret)))
def Fo:CF:=⟨1,3,[(.var 1)],IF,.plain⟩
def Ig:List Nat:=[0,2,3]
def Kn:Stm:=
 q (s [(3,i 0),(2,.cst (.slice none 0 0))]) (q (.cond (b .eql (x 0) (i 902)) (q (q (cl 12 16 (c1 (x 1))) (s [(5,ix 1 (x 12)),(4,ix 0 (x 12))])) (q (q (h 13
 .s2b (c1 (x 4))) (s [(3,x 5),(2,x 13)])) .ret)) .skip) (q (s [(6,b .quo (n1 .len (x 1)) (i 5))]) (q (.cond (p (b .eql (x 0) (i 924)) (b .neq (b .rem (n1
 .len (x 1)) (i 5)) (i 0)) (.cst (.bool false))) (q (s [(3,i 10),(2,.cst (.slice none 0 0))]) .ret) .skip) (q (.cond (p (b .eql (x 0) (i 901)) (b .gtr (n1
 .len (x 1)) (i 0)) (.cst (.bool false))) (s [(6,b .quo (b .sub (n1 .len (x 1)) (i 1)) (i 5))]) .skip) (q (s [(7,.cst (.slice none 0 0))]) (q (q (s [(8,i
 0)]) (.block 0 (.loop (q (.cond (b .lss (x 8) (x 6)) .skip (.exit 0)) (q (.block 1 (q (q (cl 14 50 (c1 (.node (.sl 1 true true false) (c3 (x 1) (b .mul (i 5)
 (x 8)) (b .add (b .mul (i 5) (x 8)) (i 5)))))) (s [(10,ix 1 (x 14)),(9,ix 0 (x 14))])) (q (.cond (n1 (.un .not) (x 10)) (q (s [(3,i 22),(2,.cst (.slice
 none 0 0))]) .ret) .skip) (q (h 15 (.app 1 [.int .u8 0]) (c2 (x 7) (x 9))) (s [(7,x 15)]))))) (s [(8,b .add (x 8) (i 1))])))))) (q (q (s [(11,b .mul (i 5)
 (x 6))]) (.block 2 (.loop (q (.cond (b .lss (x 11) (n1 .len (x 1))) .skip (.exit 2)) (q (.block 3 (q (.cond (b .gtr (ld (n2 (.iAddr 1) (x 1) (x 11))) (i 255))
 (q (s [(3,i 22),(2,.cst (.slice none 0 0))]) .ret) .skip) (q (.hv [(16,x 7)] [] [] (some 17) (.bSl [.int .u8 0] 1 [0]) (c1 (n1 (.cvt .u8) (ld (n2 (.iAddr
 1) (x 1) (x 11)))))) (q (h 18 (.app 1 [.int .u8 0]) (c2 (x 16) (x 17))) (s [(7,x 18)]))))) (s [(11,b .add (x 11) (i 1))])))))) (q (s [(3,i 0),(2,x 7)])
 .ret))))))))
def Gw:CF:=⟨2,19,[(.var 2),(.var 3)],Kn,.plain⟩
def KF:List Nat:=[0,1,4,5,6,7,8,9,10,11,12,13,18,22,59,66,80,86,87]
def CV:Stm:=
 q (s [(1,.cst (.pointer none))]) (q (s [(2,b .add (n1 .len (x 0)) (i 1))]) (q (q (.hv [(16,x 2),(14,x 2),(12,x 2),(10,x 2),(8,x 2),(6,x 2),(5,x
 0)] [] [] (some 18) .mkMap .nil) (q (h 7 (.mkSl [.int .i64 0,.int .i64 0,.int .i64 0,.int .i64 0,.int .i64 0,.int .i64 0,.int .i64 0,.int .i64 0,.int
 .i64 0,.int .i64 0,.int .i64 0,.int .i64 0]) (c2 (x 6) (x 6))) (q (h 9 (.mkSl [.int .i64 0]) (c2 (x 8) (x 8))) (q (h 11 (.mkSl [.int .i64 0]) (c2 (x 10) (x
 10))) (q (h 13 (.mkSl [.int .i64 0,.int .i64 0,.int .i64 0,.int .i64 0,.int .i64 0,.int .i64 0]) (c2 (x 12) (x 12))) (q (h 15 (.mkSl [.int .i64 0]) (c2
 (x 14) (x 14))) (q (h 17 (.mkSl [.int .i64 0]) (c2 (x 16) (x 16))) (q (h 19 .box (c1 (.node (.build [.slice none 0 0,.slice none 0 0,.slice none 0 0,.slice
 none 0 0,.slice none 0 0,.slice none 0 0,.slice none 0 0,.map none] [(0,1),(1,1),(2,1),(3,1),(4,1),(5,1),(6,1),(7,1)]) (c (x 5) (c (x 7) (c
 (x 9) (c (x 11) (c (x 13) (c3 (x 15) (x 17) (x 18)))))))))) (s [(3,x 19)]))))))))) (q (q (s [(4,b .sub (x 2) (i 1))]) (.block 0 (.loop (q (.cond (b .geq (x
 4) (i 0)) .skip (.exit 0)) (q (.block 1 (q (.hv [] [] [] none (.call false) (c3 (.cst (.func (.func 51) #[] #[])) (x 3) (x 4))) (.hv [] [] [] none (.call
 false) (c3 (.cst (.func (.func 52) #[] #[])) (x 3) (x 4))))) (s [(4,b .sub (x 4) (i 1))])))))) (q (s [(1,x 3)]) .ret))))
def AE:CF:=⟨1,20,[(.var 1)],CV,.plain⟩
def Kt:List Nat:=[0,2,3,4,5,9,10,11,12,13,14,15,16,17,18,19,20,21,22,24]
def Em:Stm:=
 q (q (h 2 .box (c1 (x 1))) (s [(3,i 0)])) (q (q (s [(4,ld (fa 0 (x 2)))]) (.block 0 (.cond (b .eql (x 4) (i 0)) (q (s [(3,ld (n2 (.iAddrA 12 1) (n2 (.iAddr
 12) (ld (fa 1 (n1 .nilChk (x 0)))) (ld (fa 1 (x 2)))) (ld (fa 2 (x 2)))))]) .ret) (.cond (b .eql (x 4) (i 1)) (q (s [(3,b .add (i 1) (ld (n2 (.iAddrA 12 1)
 (n2 (.iAddr 12) (ld (fa 1 (n1 .nilChk (x 0)))) (b .add (ld (fa 1 (x 2))) (i 1))) (ld (fa 2 (x 2))))))]) .ret) (.cond (b .eql (x 4) (i 2)) (q (.cond (b .gtr
 (ld (fa 2 (x 2))) (i 0)) (q (s [(3,b .add (b .sub (i 5) (ld (fa 2 (x 2)))) (ld (n2 (.iAddr 1) (ld (fa 2 (n1 .nilChk (x 0)))) (b .add (ld (fa 1 (x 2))) (i
 6)))))]) .ret) .skip) (q (s [(3,ld (n2 (.iAddr 1) (ld (fa 2 (n1 .nilChk (x 0)))) (ld (fa 1 (x 2)))))]) .ret)) (.cond (b .eql (x 4) (i 3)) (q (.cond (b .gtr
 (ld (fa 2 (x 2))) (i 0)) (q (s [(3,b .add (b .sub (i 5) (ld (fa 2 (x 2)))) (ld (n2 (.iAddr 1) (ld (fa 3 (n1 .nilChk (x 0)))) (b .add (ld (fa 1 (x 2))) (i
 6)))))]) .ret) .skip) (q (s [(3,ld (n2 (.iAddr 1) (ld (fa 3 (n1 .nilChk (x 0)))) (ld (fa 1 (x 2)))))]) .ret)) (.cond (b .eql (x 4) (i 4)) (q (s [(3,ld (n2
 (.iAddrA 6 1) (n2 (.iAddr 6) (ld (fa 4 (n1 .nilChk (x 0)))) (ld (fa 1 (x 2)))) (ld (fa 2 (x 2)))))]) .ret) (.cond (b .eql (x 4) (i 5)) (q (.cond (b .eql (ld
 (fa 2 (x 2))) (i 44)) (q (s [(3,b .add (b .sub (i 15) (ld (fa 3 (x 2)))) (ld (n2 (.iAddr 1) (ld (fa 5 (n1 .nilChk (x 0)))) (b .add (ld (fa 1 (x 2))) (ld (fa
 2 (x 2)))))))]) .ret) .skip) (q (.cond (b .gtr (ld (fa 2 (x 2))) (i 0)) (q (s [(3,b .add (b .sub (b .add (b .quo (ld (fa 2 (x 2))) (i 3)) (i 1)) (ld (fa 3 (x
 2)))) (ld (n2 (.iAddr 1) (ld (fa 6 (n1 .nilChk (x 0)))) (b .add (ld (fa 1 (x 2))) (ld (fa 2 (x 2)))))))]) .ret) .skip) (q (s [(3,ld (n2 (.iAddr 1) (ld (fa 5
 (n1 .nilChk (x 0)))) (ld (fa 1 (x 2)))))]) .ret))) .skip)))))))) (q (s [(3,ld (n2 (.iAddr 1) (ld (fa 6 (n1 .nilChk (x 0)))) (ld (fa 1 (x 2)))))]) .ret))
def xL:CF:=⟨2,5,[(.var 3)],Em,.plain⟩
def Jg:List Nat:=[0,1,3,4,6]
def E5:Stm:=
 q (s [(4,.cst (.slice none 0 0)),(3,i 0)]) (q (s [(5,i 1073741824)]) (q (s [(6,.cst (.slice none 0 0))]) (q (q (h 10 .mkMap .nil) (s [(7,x 10)])) (q (q (s
 [(13,i 0),(12,n1 .len (x 1)),(11,x 1)]) (.block 0 (.loop (q (.cond (b .lss (x 13) (x 12)) .skip (.exit 0)) (q (.block 1 (q (q (.hv [(14,n1 (.ld 4 true)
 (n2 (.iAddr 4) (x 11) (x 13)))] [] [] (some 8) (.alloc [.int .i64 0,.int .i64 0,.int .i64 0,.int .i64 0]) .nil) (.hv [] [] [] none (.st 4) (c2 (x 8) (x
 14)))) (q (q (cl 15 53 (c3 (x 0) (n1 (.ld 4 true) (x 8)) (x 2))) (s [(17,i 0),(16,n1 .len (x 15))])) (.block 2 (.loop (q (.cond (b .lss (x 17) (x 16))
 .skip (.exit 2)) (q (.block 3 (q (q (.hv [(18,n1 (.ld 5 true) (n2 (.iAddr 5) (x 15) (x 17)))] [] [] (some 9) (.alloc [.int .i64 0,.int .i64 0,.int .i64 0,
 .int .i64 0,.int .i64 0]) .nil) (.hv [] [] [] none (.st 5) (c2 (x 9) (x 18)))) (q (q (.hv [(19,b .gtr (ld (fa 0 (x 9))) (x 5))] [] [(b .gtr (ld (fa 0 (x
 9))) (x 5),false)] (some 20) (.call false) (c3 (.cst (.func (.func 35) #[] #[])) (x 0) (n1 (.ld 4 true) (fa 1 (x 9))))) (.cond (p (x 19) (.cst (.bool true))
 (b .neq (x 20) (x 2))) (.exit 3) .skip)) (q (.cond (b .lss (ld (fa 0 (x 9))) (x 5)) (q (s [(5,ld (fa 0 (x 9)))]) (q (s [(6,.cst (.slice none 0 0))]) (.hv []
 [] [] none .mclr (c1 (x 7))))) .skip) (.cond (n1 (.un .not) (n2 (.mget [1,1,1,1] true (.bool false) false) (x 7) (n1 (.ld 4 true) (fa 1 (x 9))))) (q (.hv
 [] [] [] none (.mset [1,1,1,1] true) (c3 (x 7) (n1 (.ld 4 true) (fa 1 (x 9))) (.cst (.bool true)))) (q (.hv [(21,x 6)] [] [] (some 22) (.bSl [.int .i64 0,
 .int .i64 0,.int .i64 0,.int .i64 0] 1 [0]) (c1 (n1 (.ld 4 true) (fa 1 (x 9))))) (q (h 23 (.app 4 [.int .i64 0,.int .i64 0,.int .i64 0,.int .i64 0]) (c2
 (x 21) (x 22))) (s [(6,x 23)])))) .skip))))) (s [(17,b .add (x 17) (i 1))])))))))) (s [(13,b .add (x 13) (i 1))])))))) (q (s [(4,x 6),(3,x 5)])
 .ret)))))
def ya:CF:=⟨3,24,[(.var 3),(.var 4)],E5,.plain⟩
def HJ:List Nat:=[0,1,2,6,7,8,9,10,12,14,15,16,17,18,21,25,26,27,30,35,39,58,61,62]
def Ek:Stm:=
 q (s [(0,.cst (.slice none 0 0))]) (q (s [(1,.cst (.slice none 0 0))]) (q (q (s [(2,i 0)]) (.block 0 (.loop (q (.cond (b .leq (x 2) (i 8)) .skip (.exit 0))
 (q (.block 1 (q (s [(3,.cst (.slice none 0 0))]) (q (q (s [(4,i 0)]) (.block 2 (.loop (q (.cond (b .leq (x 4) (i 8)) .skip (.exit 2)) (q (.block 3 (q (.hv
 [(9,x 3)] [] [] (some 10) (.bSl [.int .i64 0] 1 [0]) (c1 (i (-1)))) (q (h 11 (.app 1 [.int .i64 0]) (c2 (x 9) (x 10))) (s [(3,x 11)])))) (s [(4,b .add (x
 4) (i 1))])))))) (q (q (s [(5,i 0)]) (.block 4 (.loop (q (.cond (p (b .lss (x 5) (i 900)) (b .lss (x 2) (i 8)) (.cst (.bool false))) .skip (.exit 4)) (q
 (.block 5 (q (q (cl 12 54 (c3 (.cst (.slice none 0 0)) (x 2) (x 5))) (s [(8,ix 2 (x 12)),(7,ix 1 (x 12)),(6,ix 0 (x 12))])) (.cond (p (p (x 8) (b .eql (x
 6) (i 0)) (.cst (.bool false))) (b .lss (ld (n2 (.iAddr 1) (x 3) (x 7))) (i 0)) (.cst (.bool false))) (.hv [] [] [] none (.st 1) (c2 (n2 (.iAddr 1) (x 3) (x
 7)) (x 5))) .skip))) (s [(5,b .add (x 5) (i 1))])))))) (q (.cond (b .lss (ld (n2 (.iAddr 1) (x 3) (i 0))) (i 0)) (.hv [] [] [] none (.st 1) (c2 (n2 (.iAddr
 1) (x 3) (i 0)) (i 900))) .skip) (q (.hv [(13,x 1)] [] [] (some 14) (.bSl [.slice none 0 0] 1 [0]) (c1 (x 3))) (q (h 15 (.app 1 [.slice none 0 0]) (c2 (x 13)
 (x 14))) (s [(1,x 15)])))))))) (s [(2,b .add (x 2) (i 1))])))))) (q (s [(0,x 1)]) .ret)))
def zN:CF:=⟨0,16,[(.var 0)],Ek,.plain⟩
def Lr:List Nat:=[0,1,2,3,4,5,6,7,8,17,18,19,31,57,59,60]
def E2:Stm:=
 q (s [(3,.cst (.slice none 0 0))]) (q (s [(4,.cst (.slice none 0 0))]) (q (q (s [(5,i 1)]) (.block 0 (.loop (q (.cond (b .leq (b .add (x 1) (x 5)) (n1 .len
 (x 0))) .skip (.exit 0)) (q (.block 1 (q (q (.hv [(11,ld (n2 (.iAddr 1) (ld (n2 (.iAddr 1) (x 2) (b .add (x 1) (x 5)))) (i 8)))] [] [] (some 10) (.callK 2)
 (c (n2 (.iAddr 1) (x 2) (b .add (x 1) (x 5))) (c3 (n2 (.iAddr 1) (ld (n2 (.iAddr 1) (x 2) (b .add (x 1) (x 5)))) (i 8)) (.cst (.func (.func 55) #[] #[]))
 (.node (.sl 1 true true false) (c3 (x 0) (x 1) (b .add (x 1) (x 5))))))) (q (h 12 .callC (c3 (.cst (.func (.func 40) #[] #[])) (x 10) (x 11))) (s [(6,x
 12)]))) (q (.hv [(13,b .eql (x 5) (i 1))] [] [(b .eql (x 5) (i 1),false)] (some 14) (.call false) (c3 (.cst (.func (.func 41) #[] #[])) (x 6) (x 4))) (.cond
 (p (x 13) (.cst (.bool true)) (x 14)) (s [(4,x 6)]) .skip)))) (s [(5,b .add (x 5) (i 1))])))))) (q (q (s [(7,i 1)]) (.block 2 (.loop (q (.cond (p (p (b
 .leq (b .add (x 1) (x 7)) (n1 .len (x 0))) (b .geq (ld (n2 (.iAddr 1) (x 0) (b .sub (b .add (x 1) (x 7)) (i 1)))) (.cst (.int .u8 48))) (.cst (.bool false)))
 (b .leq (ld (n2 (.iAddr 1) (x 0) (b .sub (b .add (x 1) (x 7)) (i 1)))) (.cst (.int .u8 57))) (.cst (.bool false))) .skip (.exit 2)) (q (.block 3 (q (q (cl 15
 14 (c1 (n1 .b2s (.node (.sl 1 true true false) (c3 (x 0) (x 1) (b .add (x 1) (x 7))))))) (.sets [(8,ix 0 (x 15))] [ix 1 (x 15)])) (q (q (.hv [(21,ld (n2
 (.iAddr 1) (ld (n2 (.iAddr 1) (x 2) (b .add (x 1) (x 7)))) (i 8))),(20,n2 (.iAddr 1) (ld (n2 (.iAddr 1) (x 2) (b .add (x 1) (x 7)))) (i 8)),(19,n2 (.iAddr
 1) (x 2) (b .add (x 1) (x 7))),(17,x 8)] [] [] (some 16) (.bSl [.int .i64 0] 1 [0]) (c1 (i 902))) (q (h 18 (.callK 2) (c (x 19) (c (x 20) (c3 (.cst (.func
 (.func 40) #[] #[])) (x 16) (x 17))))) (q (h 22 .callC (c3 (.cst (.func (.func 40) #[] #[])) (x 18) (x 21))) (s [(9,x 22)])))) (q (cl 23 41 (c2 (x 9) (x 4)))
 (.cond (x 23) (s [(4,x 9)]) .skip))))) (s [(7,b .add (x 7) (i 1))])))))) (q (s [(3,x 4)]) .ret))))
def zO:CF:=⟨3,24,[(.var 3)],E2,.plain⟩
def He:List Nat:=[0,1,2,6,7,8,9,10,11,13,28,36,37,40,43,82,85,86,87,92,94,95,96,99]
def C5:Stm:=
 q (s [(5,.cst (.slice none 0 0))]) (q (q (s [(6,i 0)]) (.block 0 (.loop (q (.cond (b .lss (x 6) (i 900)) .skip (.exit 0)) (q (.block 1 (q (q (cl 13 54 (c3 (n2
 (.sl 1 true false false) (x 0) (x 1)) (x 2) (x 6))) (s [(9,ix 2 (x 13)),(8,ix 1 (x 13)),(7,ix 0 (x 13))])) (.cond (p (x 9) (b .gtr (x 7) (i 0)) (.cst
 (.bool false))) (q (q (h 14 (.bSl [.int .i64 0] 1 [0]) (c1 (x 6))) (q (cl 15 40 (c2 (x 14) (ld (n2 (.iAddr 1) (ld (n2 (.iAddr 1) (x 3) (b .add (x 1) (x 7))))
 (x 8))))) (s [(10,x 15)]))) (q (cl 16 41 (c2 (x 10) (x 4))) (.cond (x 16) (s [(4,x 10)]) .skip))) .skip))) (s [(6,b .add (x 6) (i 1))])))))) (q (q (cl 17
 56 (c1 (x 2))) (.sets [(11,ix 0 (x 17))] [ix 1 (x 17)])) (q (q (.hv [(19,ld (n2 (.iAddr 1) (ld (n2 (.iAddr 1) (x 3) (b .add (x 1) (i 1)))) (x 11)))] [] []
 (some 18) (.bSl [.int .i64 0] 2 [0,1]) (c2 (i 913) (n1 (.cvt .i64) (ld (n2 (.iAddr 1) (x 0) (x 1)))))) (q (h 20 .callC (c3 (.cst (.func (.func 40) #[] #[]))
 (x 18) (x 19))) (s [(12,x 20)]))) (q (q (cl 21 41 (c2 (x 12) (x 4))) (.cond (x 21) (s [(4,x 12)]) .skip)) (q (s [(5,x 4)]) .ret)))))
def zH:CF:=⟨5,22,[(.var 5)],C5,.plain⟩
def HE:List Nat:=[0,1,2,3,4,10,11,12,13,14,15,16,18,29,39,49,52,56,64,72,73,76]
def ES:Stm:=
 q (s [(2,.cst (.slice none 0 0))]) (q (s [(3,.cst (.slice none 0 0))]) (q (q (h 4 (.app 1 [.int .i64 0]) (c2 (x 3) (x 0))) (s [(3,x 4)])) (q (q (h 5 (.app 1
 [.int .i64 0]) (c2 (x 3) (x 1))) (s [(2,x 5)])) .ret)))
def yh:CF:=⟨2,6,[(.var 2)],ES,.plain⟩
def HY:List Nat:=[0,1,4,5,8,11]
def Cm:Stm:=
 q (s [(2,.cst (.bool false))]) (q (.cond (b .neq (n1 .len (x 0)) (n1 .len (x 1))) (q (s [(2,b .lss (n1 .len (x 0)) (n1 .len (x 1)))]) .ret) .skip) (q (q (s
 [(3,i 0)]) (.block 0 (.loop (q (.cond (b .lss (x 3) (n1 .len (x 0))) .skip (.exit 0)) (q (.block 1 (.cond (b .neq (ld (n2 (.iAddr 1) (x 0) (x 3))) (ld (n2
 (.iAddr 1) (x 1) (x 3)))) (q (s [(2,b .lss (ld (n2 (.iAddr 1) (x 0) (x 3))) (ld (n2 (.iAddr 1) (x 1) (x 3))))]) .ret) .skip)) (s [(3,b .add (x 3) (i
 1))])))))) (q (s [(2,.cst (.bool false))]) .ret)))
def zU:CF:=⟨2,4,[(.var 2)],Cm,.plain⟩
def IB:List Nat:=[0,1,4,5]
def Ew:Stm:=
 q (q (h 1 (.alloc [.bool false,.slice none 0 0]) .nil) (s [(2,i 0)])) (q (q (cl 7 57 (c2 (x 0) (.cst (.string ⟨ #[45] ⟩)))) (s [(4,ix 1 (x 7)),(3,ix 0 (x
 7))])) (q (.cond (b .gtr (n1 .lenS (x 3)) (i 4096)) (q (q (.hv [] [] [] none (.st 2) (c2 (x 1) (.node (.build [.bool false,.slice none 0 0] []) .nil))) (s
 [(2,i 4)])) .ret) .skip) (q (.cond (p (b .eql (x 3) (.cst (.string ⟨ #[] ⟩))) (.cst (.bool true)) (p (b .eql (n2 .idxS (x 3) (i 0)) (.cst (.int .u8 48))) (p
 (x 4) (.cst (.bool true)) (b .gtr (n1 .lenS (x 3)) (i 1))) (.cst (.bool false)))) (q (q (.hv [] [] [] none (.st 2) (c2 (x 1) (.node (.build [.bool false,
 .slice none 0 0] []) .nil))) (s [(2,i 9)])) .ret) .skip) (q (s [(5,.cst (.slice none 0 0))]) (q (q (h 8 .sit (c1 (x 3))) (.block 0 (.loop (q (q (h 9 .snx
 (c1 (x 8))) (.cond (ix 0 (x 9)) .skip (.exit 0))) (.block 1 (q (s [(6,ix 2 (x 9))]) (q (.cond (p (b .lss (x 6) (.cst (.int .i32 48))) (.cst (.bool true)) (b
 .gtr (x 6) (.cst (.int .i32 57)))) (q (q (.hv [] [] [] none (.st 2) (c2 (x 1) (.node (.build [.bool false,.slice none 0 0] []) .nil))) (s [(2,i 9)])) .ret)
 .skip) (q (cl 10 58 (c3 (x 5) (.cst (.int .u32 10)) (n1 (.cvt .u32) (b .sub (x 6) (.cst (.int .i32 48)))))) (s [(5,x 10)]))))))))) (q (q (cl 11 59 (c2 (x 4)
 (x 5))) (q (.hv [] [] [] none (.st 2) (c2 (x 1) (x 11))) (s [(2,i 0)]))) .ret))))))
def zP:CF:=⟨1,12,[(.node (.ld 2 true) (.cons (.var 1) .nil)),(.var 2)],Ew,.plain⟩
def KD:List Nat:=[0,2,3,4,5,6,8,11,35,36,50,53]
def EY:Stm:=
 q (q (h 2 .box (c1 (x 0))) (s [(4,i 0),(3,.cst (.slice none 0 0))])) (q (q (cl 8 60 (c1 (n1 (.ld 2 true) (x 2)))) (.cond (p (p (p (n1 (.un .not) (x 8)) (.cst
 (.bool true)) (ld (fa 0 (x 2)))) (.cst (.bool true)) (b .lss (x 1) (i 2))) (.cst (.bool true)) (b .gtr (x 1) (i 65536))) (q (s [(4,i 1),(3,.cst (.slice
 none 0 0))]) .ret) .skip)) (q (.cond (b .eql (n1 .len (ld (fa 1 (x 2)))) (i 0)) (q (q (h 9 (.bSl [.int .i64 0] 1 [0]) (c1 (i 0))) (s [(4,i 0),(3,x 9)]))
 .ret) .skip) (q (s [(5,.cst (.slice none 0 0))]) (q (q (s [(6,ld (fa 1 (x 2)))]) (.block 0 (.loop (q (.cond (b .gtr (n1 .len (x 6)) (i 0)) .skip (.exit 0))
 (.block 1 (q (.cond (b .eql (n1 .len (x 5)) (i 4096)) (q (s [(4,i 4),(3,.cst (.slice none 0 0))]) .ret) .skip) (q (s [(7,.cst (.int .u32 0))]) (q (q (cl
 10 61 (c2 (x 6) (n1 (.cvt .u32) (x 1)))) (s [(7,ix 1 (x 10)),(6,ix 0 (x 10))])) (q (.hv [(11,x 5)] [] [] (some 12) (.bSl [.int .i64 0] 1 [0]) (c1 (n1
 (.cvt .i64) (x 7)))) (q (h 13 (.app 1 [.int .i64 0]) (c2 (x 11) (x 12))) (s [(5,x 13)]))))))))))) (q (.hv [] [] [] none (.call false) (c2 (.cst (.func (.func
 62) #[] #[])) (x 5))) (q (s [(4,i 0),(3,x 5)]) .ret))))))
def yj:CF:=⟨2,14,[(.var 3),(.var 4)],EY,.plain⟩
def Ha:List Nat:=[0,1,2,4,5,6,7,8,10,28,41,44,47,48]
def Ee:Stm:=
 q (q (h 2 (.alloc [.bool false,.slice none 0 0]) .nil) (s [(3,i 0)])) (q (.cond (p (b .lss (x 1) (i 2)) (.cst (.bool true)) (b .gtr (x 1) (i 65536))) (q (q
 (.hv [] [] [] none (.st 2) (c2 (x 2) (.node (.build [.bool false,.slice none 0 0] []) .nil))) (s [(3,i 1)])) .ret) .skip) (q (.cond (b .gtr (n1 .len (x 0))
 (i 4096)) (q (q (.hv [] [] [] none (.st 2) (c2 (x 2) (.node (.build [.bool false,.slice none 0 0] []) .nil))) (s [(3,i 4)])) .ret) .skip) (q (q (s [(9,i
 0),(8,n1 .len (x 0)),(7,x 0)]) (.block 0 (.loop (q (.cond (b .lss (x 9) (x 8)) .skip (.exit 0)) (q (.block 1 (q (s [(4,ld (n2 (.iAddr 1) (x 7) (x 9)))])
 (.cond (p (b .lss (x 4) (i 0)) (.cst (.bool true)) (b .geq (x 4) (x 1))) (q (q (.hv [] [] [] none (.st 2) (c2 (x 2) (.node (.build [.bool false,.slice none 0
 0] []) .nil))) (s [(3,i 3)])) .ret) .skip))) (s [(9,b .add (x 9) (i 1))])))))) (q (s [(5,.cst (.slice none 0 0))]) (q (q (s [(12,i 0),(11,n1 .len (x
 0)),(10,x 0)]) (.block 2 (.loop (q (.cond (b .lss (x 12) (x 11)) .skip (.exit 2)) (q (.block 3 (q (s [(6,ld (n2 (.iAddr 1) (x 10) (x 12)))]) (q (q (cl 13
 58 (c3 (x 5) (n1 (.cvt .u32) (x 1)) (n1 (.cvt .u32) (x 6)))) (s [(5,x 13)])) (.cond (b .gtr (n1 .len (x 5)) (i 512)) (q (q (.hv [] [] [] none (.st 2) (c2 (x
 2) (.node (.build [.bool false,.slice none 0 0] []) .nil))) (s [(3,i 4)])) .ret) .skip)))) (s [(12,b .add (x 12) (i 1))])))))) (q (q (cl 14 59 (c2 (.cst
 (.bool false)) (x 5))) (q (.hv [] [] [] none (.st 2) (c2 (x 2) (x 14))) (s [(3,i 0)]))) .ret))))))
def xP:CF:=⟨2,15,[(.node (.ld 2 true) (.cons (.var 2) .nil)),(.var 3)],Ee,.plain⟩
def IP:List Nat:=[0,1,4,5,7,8,10,22,23,24,37,38,39,48,55]
def wH:Stm:=
 q (q (h 1 .box (c1 (x 0))) (s [(2,.cst (.string ⟨ #[] ⟩))])) (q (q (cl 9 60 (c1 (n1 (.ld 2 true) (x 1)))) (.cond (n1 (.un .not) (x 9)) (q (s [(2,.cst (.string
 ⟨ #[] ⟩))]) .ret) .skip)) (q (.cond (b .eql (n1 .len (ld (fa 1 (x 1)))) (i 0)) (q (s [(2,.cst (.string ⟨ #[48] ⟩))]) .ret) .skip) (q (s [(3,.cst (.slice
 none 0 0))]) (q (q (s [(4,ld (fa 1 (x 1)))]) (.block 0 (.loop (q (.cond (b .gtr (n1 .len (x 4)) (i 0)) .skip (.exit 0)) (.block 1 (q (s [(5,.cst (.int .u32
 0))]) (q (q (cl 10 61 (c2 (x 4) (.cst (.int .u32 1000000000)))) (s [(5,ix 1 (x 10)),(4,ix 0 (x 10))])) (q (.hv [(11,x 3)] [] [] (some 12) (.bSl [.int .u32
 0] 1 [0]) (c1 (x 5))) (q (h 13 (.app 1 [.int .u32 0]) (c2 (x 11) (x 12))) (s [(3,x 13)])))))))))) (q (h 6 (.alloc [.pointer none,.slice none 0 0]) .nil) (q
 (.cond (ld (fa 0 (x 1))) (.hv [] [] [] none (.call false) (c3 (.cst (.func (.func 63) #[] #[])) (x 6) (.cst (.int .u8 45)))) .skip) (q (q (s [(7,b .sub (n1
 .len (x 3)) (i 1))]) (.block 2 (.loop (q (.cond (b .geq (x 7) (i 0)) .skip (.exit 2)) (q (.block 3 (q (q (cl 14 64 (c1 (n1 (.cvt .i64) (ld (n2 (.iAddr 1) (x
 3) (x 7)))))) (s [(8,x 14)])) (q (.cond (b .lss (x 7) (b .sub (n1 .len (x 3)) (i 1))) (q (cl 15 66 (c2 (.cst (.string ⟨ #[48] ⟩)) (b .sub (i 9) (n1 .lenS (x
 8))))) (.hv [] [] [] none (.call false) (c3 (.cst (.func (.func 65) #[] #[])) (x 6) (x 15)))) .skip) (.hv [] [] [] none (.call false) (c3 (.cst (.func (.func
 65) #[] #[])) (x 6) (x 8)))))) (s [(7,b .sub (x 7) (i 1))])))))) (q (q (cl 16 67 (c1 (x 6))) (s [(2,x 16)])) .ret))))))))
def xw:CF:=⟨1,17,[(.var 2)],wH,.plain⟩
def FW:List Nat:=[0,1,2,3,4,5,6,7,8,10,23,26,28,29,45,54,58]
def DA:Stm:=
 q (q (cl 5 68 (c2 (n1 (.ld 2 true) (fa 2 (n1 .nilChk (x 0)))) (x 1))) (q (.hv [(8,ix 2 (x 5)),(7,ix 1 (x 5)),(6,ix 0 (x 5))] [] [] (some 2) (.alloc [.int
 .i64 0,.int .i64 0]) .nil) (q (.hv [] [] [] none (.st 2) (c2 (x 2) (x 6))) (s [(4,x 8),(3,x 7)])))) (q (.cond (n1 (.un .not) (x 4)) (.hv [] [] [] none
 .pan (c1 (n1 (.mkI 47) (n1 (.build [.int .i64 0] [(0,1)]) (i 22))))) .skip) (q (.cond (b .geq (x 3) (i 0)) (q (.hv [(10,ld (fa 4 (n1 .nilChk (x 0)))),(9,x
 0)] [] [] (some 11) (.bSl [.int .u8 0] 1 [0]) (c1 (n1 (.cvt .u8) (x 3)))) (q (h 12 (.app 1 [.int .u8 0]) (c2 (x 10) (x 11))) (.hv [] [] [] none (.st 1) (c2
 (fa 4 (n1 .nilChk (x 9))) (x 12))))) .skip) (.hv [] [] [] none (.st 2) (c2 (fa 2 (n1 .nilChk (x 0))) (n1 (.ld 2 true) (x 2))))))
def wQ:CF:=⟨2,13,[],DA,.plain⟩
def Ir:List Nat:=[0,1,4,5,6,13,14,15,16,23,27,30,31]
def EN:Stm:=
 q (.cond (b .eql (ld (fa 1 (n1 .nilChk (x 0)))) (n1 .len (ld (fa 0 (n1 .nilChk (x 0)))))) (.hv [] [] [] none .pan (c1 (n1 (.mkI 47) (n1 (.build [.int .i64 0]
 [(0,1)]) (i 10))))) .skip) (q (s [(1,ld (n2 (.iAddr 1) (ld (fa 0 (n1 .nilChk (x 0)))) (ld (fa 1 (n1 .nilChk (x 0))))))]) (q (.cond (b .gtr (x 1) (i 255))
 (.hv [] [] [] none .pan (c1 (n1 (.mkI 47) (n1 (.build [.int .i64 0] [(0,1)]) (i 22))))) .skip) (q (.hv [] [] [] none (.st 1) (c2 (fa 1 (n1 .nilChk (x 0))) (b
 .add (ld (fa 1 (n1 .nilChk (x 0)))) (i 1)))) (q (q (.hv [(3,ld (fa 4 (n1 .nilChk (x 0)))),(2,x 0)] [] [] (some 4) (.bSl [.int .u8 0] 1 [0]) (c1 (n1 (.cvt
 .u8) (x 1)))) (q (h 5 (.app 1 [.int .u8 0]) (c2 (x 3) (x 4))) (.hv [] [] [] none (.st 1) (c2 (fa 4 (n1 .nilChk (x 2))) (x 5))))) (.hv [] [] [] none (.st 1)
 (c2 (fa 1 (fa 2 (n1 .nilChk (x 0)))) (i 0)))))))
def zu:CF:=⟨1,6,[],EN,.plain⟩
def Js:List Nat:=[0,2,36,40,43,44]
def ET:Stm:=
 q (s [(2,ld (fa 1 (n1 .nilChk (x 0))))]) (q (.block 0 (.loop (q (.cond (p (b .lss (x 2) (n1 .len (ld (fa 0 (n1 .nilChk (x 0)))))) (b .lss (ld (n2 (.iAddr 1)
 (ld (fa 0 (n1 .nilChk (x 0)))) (x 2))) (i 900)) (.cst (.bool false))) .skip (.exit 0)) (.block 1 (s [(2,b .add (x 2) (i 1))]))))) (q (s [(3,.node (.sl 1
 true true false) (c3 (ld (fa 0 (n1 .nilChk (x 0)))) (ld (fa 1 (n1 .nilChk (x 0)))) (x 2)))]) (q (.hv [] [] [] none (.st 1) (c2 (fa 1 (n1 .nilChk (x 0))) (x
 2))) (q (.cond (p (b .eql (x 1) (i 924)) (b .neq (b .rem (n1 .len (x 3)) (i 5)) (i 0)) (.cst (.bool false))) (.hv [] [] [] none .pan (c1 (n1 (.mkI 47) (n1
 (.build [.int .i64 0] [(0,1)]) (i 10))))) .skip) (q (.cond (p (b .lss (x 2) (n1 .len (ld (fa 0 (n1 .nilChk (x 0)))))) (b .eql (ld (n2 (.iAddr 1) (ld (fa 0
 (n1 .nilChk (x 0)))) (x 2))) (i 913)) (.cst (.bool false))) (.hv [] [] [] none .pan (c1 (n1 (.mkI 47) (n1 (.build [.int .i64 0] [(0,1)]) (i 22))))) .skip) (q
 (s [(6,x 1)]) (.block 2 (.cond (b .eql (x 6) (i 924)) (.hv [] [] [] none (.call false) (c (.cst (.func (.func 69) #[] #[])) (c3 (x 0) (x 3) (b .quo (n1 .len
 (x 3)) (i 5))))) (.cond (b .eql (x 6) (i 901)) (.hv [] [] [] none (.call false) (c (.cst (.func (.func 69) #[] #[])) (c3 (x 0) (x 3) (b .quo (b .sub (n1 .len
 (x 3)) (i 1)) (i 5))))) (q (q (cl 7 26 (c1 (x 3))) (s [(5,ix 1 (x 7)),(4,ix 0 (x 7))])) (q (.cond (n1 (.un .not) (x 5)) (.hv [] [] [] none .pan (c1 (n1
 (.mkI 47) (n1 (.build [.int .i64 0] [(0,1)]) (i 22))))) .skip) (q (.hv [(8,x 0)] [] [] (some 9) (.appS [.int .u8 0]) (c2 (ld (fa 4 (n1 .nilChk (x 0)))) (x
 4))) (.hv [] [] [] none (.st 1) (c2 (fa 4 (n1 .nilChk (x 8))) (x 9)))))))))))))))
def tD:CF:=⟨2,10,[],ET,.plain⟩
def Hd:List Nat:=[0,1,4,5,6,7,74,77,84,90]
def C7:Stm:=
 q (s [(6,.cst (.bool false)),(5,i 0),(4,i 0),(3,i 0)]) (q (.cond (b .eql (x 1) (i 1)) (q (.cond (b .eql (x 2) (i 29)) (q (s [(6,.cst (.bool false)),(5,
 i 0),(4,i 0),(3,i 0)]) .ret) .skip) (q (s [(6,.cst (.bool true)),(5,i 0),(4,x 0),(3,n1 (.cvt .i64) (n2 .idxS (.cst (.string ⟨ #[59,60,62,64,91,
 92,93,95,96,126,33,13,9,44,58,10,45,46,36,47,34,124,42,40,41,63,123,125,39] ⟩)) (x 2)))]) .ret)) .skip) (q (.cond (b .eql (x 1) (i 2))
 (q (.cond (b .gtr (x 2) (i 26)) (q (s [(6,.cst (.bool false)),(5,i 0),(4,i 0),(3,i 0)]) .ret) .skip) (q (s [(6,.cst (.bool true)),(5,i 0),(4,x 0),
 (3,n1 (.cvt .i64) (n2 .idxS (.cst (.string ⟨ #[65,66,67,68,69,70,71,72,73,74,75,76,77,78,79,80,81,82,83,84,85,86,87,88,89,90,32]
 ⟩)) (x 2)))]) .ret)) .skip) (q (.cond (b .eql (x 0) (i 3)) (q (.cond (b .eql (x 2) (i 29)) (q (s [(6,.cst (.bool true)),(5,i 0),(4,i 0),(3,i (-1))])
 .ret) .skip) (q (s [(6,.cst (.bool true)),(5,i 0),(4,x 0),(3,n1 (.cvt .i64) (n2 .idxS (.cst (.string ⟨ #[59,60,62,64,91,92,93,95,96,126,33,
 13,9,44,58,10,45,46,36,47,34,124,42,40,41,63,123,125,39] ⟩)) (x 2)))]) .ret)) .skip) (q (.cond (b .eql (x 2) (i 29)) (q (s [(6,.cst (.bool
 true)),(5,i 1),(4,x 0),(3,i (-1))]) .ret) .skip) (q (.cond (b .eql (x 0) (i 2)) (q (.cond (b .eql (x 2) (i 25)) (q (s [(6,.cst (.bool true)),(5,i 0),
 (4,i 3),(3,i (-1))]) .ret) .skip) (q (.cond (b .eql (x 2) (i 26)) (q (s [(6,.cst (.bool true)),(5,i 0),(4,x 0),(3,i 32)]) .ret) .skip) (q (.cond (b
 .eql (x 2) (i 27)) (q (s [(6,.cst (.bool true)),(5,i 0),(4,i 1),(3,i (-1))]) .ret) .skip) (q (.cond (b .eql (x 2) (i 28)) (q (s [(6,.cst (.bool
 true)),(5,i 0),(4,i 0),(3,i (-1))]) .ret) .skip) (q (s [(6,.cst (.bool true)),(5,i 0),(4,x 0),(3,n1 (.cvt .i64) (n2 .idxS (.cst (.string ⟨ #[48,
 49,50,51,52,53,54,55,56,57,38,13,9,44,58,35,45,46,36,47,43,37,42,61,94] ⟩)) (x 2)))]) .ret))))) .skip) (q (.cond (b .eql (x 2) (i 28))
 (q (s [(6,.cst (.bool true)),(5,i 0),(4,i 2),(3,i (-1))]) .ret) .skip) (q (.cond (b .eql (x 0) (i 0)) (q (.cond (b .eql (x 2) (i 27)) (q (s [(6,.cst
 (.bool true)),(5,i 0),(4,i 1),(3,i (-1))]) .ret) .skip) (q (s [(6,.cst (.bool true)),(5,i 0),(4,x 0),(3,n1 (.cvt .i64) (n2 .idxS (.cst (.string ⟨
 #[65,66,67,68,69,70,71,72,73,74,75,76,77,78,79,80,81,82,83,84,85,86,87,88,89,90,32] ⟩)) (x 2)))]) .ret)) .skip) (q (.cond (b .eql (x
 2) (i 27)) (q (s [(6,.cst (.bool true)),(5,i 2),(4,x 0),(3,i (-1))]) .ret) .skip) (q (s [(6,.cst (.bool true)),(5,i 0),(4,x 0),(3,n1 (.cvt .i64)
 (n2 .idxS (.cst (.string ⟨ #[97,98,99,100,101,102,103,104,105,106,107,108,109,110,111,112,113,114,115,116,117,118,119,120,121,122,
 32] ⟩)) (x 2)))]) .ret)))))))))
def x6:CF:=⟨3,7,[(.var 3),(.var 4),(.var 5),(.var 6)],C7,.plain⟩
def JE:List Nat:=[0,1,2,6,7,8,9]
def Ik:Stm:=
 q (s [(2,.cst (.bool false)),(1,.cst (.slice none 0 0))]) (q (s [(3,i 0)]) (q (q (s [(4,i 0)]) (.block 0 (.loop (q (.cond (b .lss (x 4) (i 5)) .skip (.exit
 0)) (q (.block 1 (s [(3,b .add (b .mul (i 900) (x 3)) (ld (n2 (.iAddr 1) (x 0) (x 4))))])) (s [(4,b .add (x 4) (i 1))])))))) (q (.cond (b .geq (x 3) (i
 281474976710656)) (q (s [(2,.cst (.bool false)),(1,.cst (.slice none 0 0))]) .ret) .skip) (q (s [(5,.cst (.slice none 0 0))]) (q (q (s [(6,i 5)]) (.block
 2 (.loop (q (.cond (b .geq (x 6) (i 0)) .skip (.exit 2)) (q (.block 3 (q (.hv [(7,x 5)] [] [] (some 8) (.bSl [.int .u8 0] 1 [0]) (c1 (n1 (.cvt .u8) (b .shr
 (x 3) (n1 (.cvt .u64) (b .mul (i 8) (x 6))))))) (q (h 9 (.app 1 [.int .u8 0]) (c2 (x 7) (x 8))) (s [(5,x 9)])))) (s [(6,b .sub (x 6) (i 1))])))))) (q (s
 [(2,.cst (.bool true)),(1,x 5)]) .ret))))))
def GW:CF:=⟨1,10,[(.var 1),(.var 2)],Ik,.plain⟩
def IY:List Nat:=[0,2,3,4,5,6,7,25,32,33]
def Cj:Stm:=
 q (s [(2,n1 .len (ld (fa 0 (n1 .nilChk (x 0)))))]) (q (q (.hv [(12,x 1),(11,ld (fa 6 (n1 .nilChk (x 0)))),(10,x 1),(9,ld (fa 5 (n1 .nilChk (x 0)))),(8,
 x 1),(7,ld (fa 3 (n1 .nilChk (x 0))))] [] [] none (.st 1) (c2 (n2 (.iAddr 1) (ld (fa 2 (n1 .nilChk (x 0)))) (x 1)) (i 1073741824))) (q (.hv [] [] [] none
 (.st 1) (c2 (n2 (.iAddr 1) (x 7) (x 8)) (i 1073741824))) (q (.hv [] [] [] none (.st 1) (c2 (n2 (.iAddr 1) (x 9) (x 10)) (i 1073741824))) (.hv [] [] [] none
 (.st 1) (c2 (n2 (.iAddr 1) (x 11) (x 12)) (i 1073741824)))))) (q (q (s [(13,i 0)]) (.block 0 (.loop (q (.cond (b .lss (x 13) (i 12)) .skip (.exit 0)) (q
 (.block 1 (q (s [(3,x 13)]) (.hv [] [] [] none (.st 1) (c2 (n2 (.iAddrA 12 1) (n2 (.iAddr 12) (ld (fa 1 (n1 .nilChk (x 0)))) (x 1)) (x 3)) (i 1073741824)))))
 (s [(13,b .add (x 13) (i 1))])))))) (q (.cond (b .eql (x 1) (x 2)) (q (.hv [] [] [] none (.st 1) (c2 (n2 (.iAddr 1) (ld (fa 6 (n1 .nilChk (x 0)))) (x 1)) (i
 0))) (.hv [] [] [] none (.st 12) (c2 (n2 (.iAddr 12) (ld (fa 1 (n1 .nilChk (x 0)))) (x 1)) (.node (.build [.int .i64 0,.int .i64 0,.int .i64 0,.int .i64 0,
 .int .i64 0,.int .i64 0,.int .i64 0,.int .i64 0,.int .i64 0,.int .i64 0,.int .i64 0,.int .i64 0] []) .nil)))) .skip) (q (.cond (b .leq (b .add (x 1) (i
 6)) (x 2)) (q (.hv [] [] [] none (.st 1) (c2 (n2 (.iAddr 1) (ld (fa 2 (n1 .nilChk (x 0)))) (x 1)) (b .add (i 5) (ld (n2 (.iAddr 1) (ld (fa 2 (n1 .nilChk (x
 0)))) (b .add (x 1) (i 6))))))) (.hv [] [] [] none (.st 1) (c2 (n2 (.iAddr 1) (ld (fa 3 (n1 .nilChk (x 0)))) (x 1)) (b .add (i 5) (ld (n2 (.iAddr 1) (ld (fa 3
 (n1 .nilChk (x 0)))) (b .add (x 1) (i 6)))))))) .skip) (q (.cond (b .lss (x 1) (x 2)) (.hv [] [] [] none (.st 1) (c2 (n2 (.iAddr 1) (ld (fa 3 (n1 .nilChk (x
 0)))) (x 1)) (n2 (.minmax false) (ld (n2 (.iAddr 1) (ld (fa 3 (n1 .nilChk (x 0)))) (x 1))) (b .add (i 1) (ld (n2 (.iAddrA 6 1) (n2 (.iAddr 6) (ld (fa 4 (n1
 .nilChk (x 0)))) (b .add (x 1) (i 1))) (i 1))))))) .skip) (q (q (s [(4,i 1)]) (.block 2 (.loop (q (.cond (b .leq (x 4) (i 5)) .skip (.exit 2)) (q (.block 3
 (q (.hv [] [] [] none (.st 1) (c2 (n2 (.iAddrA 6 1) (n2 (.iAddr 6) (ld (fa 4 (n1 .nilChk (x 0)))) (x 1)) (x 4)) (i 1073741824))) (.cond (p (b .lss (x 4) (i
 5)) (b .lss (x 1) (x 2)) (.cst (.bool false))) (.hv [] [] [] none (.st 1) (c2 (n2 (.iAddrA 6 1) (n2 (.iAddr 6) (ld (fa 4 (n1 .nilChk (x 0)))) (x 1)) (x 4)) (b
 .add (i 1) (ld (n2 (.iAddrA 6 1) (n2 (.iAddr 6) (ld (fa 4 (n1 .nilChk (x 0)))) (b .add (x 1) (i 1))) (b .add (x 4) (i 1))))))) .skip))) (s [(4,b .add (x 4)
 (i 1))])))))) (q (s [(5,i 1)]) (.block 4 (.loop (q (q (.hv [(14,x 5)] [] [] (some 15) (.call false) (c3 (.cst (.func (.func 70) #[] #[])) (x 0) (x 1)))
 (.cond (b .leq (x 14) (x 15)) .skip (.exit 4))) (q (.block 5 (q (s [(6,ld (n2 (.iAddr 1) (ld (fa 6 (n1 .nilChk (x 0)))) (b .add (x 1) (x 5))))]) (q (.cond (b
 .eql (x 5) (i 44)) (s [(6,ld (n2 (.iAddr 1) (ld (fa 5 (n1 .nilChk (x 0)))) (b .add (x 1) (x 5))))]) .skip) (.hv [] [] [] none (.st 1) (c2 (n2 (.iAddr 1) (ld
 (fa 5 (n1 .nilChk (x 0)))) (x 1)) (n2 (.minmax false) (ld (n2 (.iAddr 1) (ld (fa 5 (n1 .nilChk (x 0)))) (x 1))) (b .add (b .add (b .quo (x 5) (i 3)) (i 1)) (x
 6)))))))) (s [(5,b .add (x 5) (i 1))]))))))))))))
def yq:CF:=⟨2,16,[],Cj,.plain⟩
def J8:List Nat:=[0,1,4,5,6,7,8,22,23,27,28,32,33,38,166,169]
def Dz:Stm:=
 q (h 2 (.alloc [.slice none 0 0,.slice none 0 0,.slice none 0 0,.slice none 0 0,.slice none 0 0,.slice none 0 0,.slice none 0 0,.slice none 0 0,.slice
 none 0 0,.slice none 0 0,.slice none 0 0,.slice none 0 0]) .nil) (q (q (s [(10,i 0)]) (.block 0 (.loop (q (.cond (b .lss (x 10) (i 12)) .skip (.exit 0))
 (q (.block 1 (q (s [(3,x 10)]) (q (.hv [(11,x 3)] [] [] (some 12) (.call false) (c (.cst (.func (.func 71) #[] #[])) (c3 (x 0) (x 1) (x 3)))) (.hv [] [] []
 none (.st 1) (c2 (n2 (.iAddrA 12 1) (x 2) (x 11)) (x 12)))))) (s [(10,b .add (x 10) (i 1))])))))) (q (q (h 4 (.alloc [.bool false]) .nil) (.hv [] [] [] none
 (.st 1) (c2 (x 4) (.cst (.bool true))))) (q (s [(5,n1 (.mkF 72 0) (x 4))]) (.block 2 (.loop (q (.cond (ld (x 4)) .skip (.exit 2)) (.block 3 (q (.hv [] [] []
 none (.st 1) (c2 (x 4) (.cst (.bool false)))) (q (s [(6,b .add (i 1) (.node (.minmax false) (c (ld (n2 (.iAddrA 12 1) (n2 (.iAddr 12) (ld (fa 1 (n1 .nilChk
 (x 0)))) (x 1)) (i 0))) (c3 (ld (n2 (.iAddr 1) (ld (fa 2 (n1 .nilChk (x 0)))) (x 1))) (ld (n2 (.iAddr 1) (ld (fa 3 (n1 .nilChk (x 0)))) (x 1))) (ld (n2
 (.iAddr 1) (ld (fa 5 (n1 .nilChk (x 0)))) (x 1)))))))]) (q (.hv [] [] [] none (.call false) (c3 (x 5) (n2 (.iAddr 1) (ld (fa 6 (n1 .nilChk (x 0)))) (x 1)) (x
 6))) (q (.hv [] [] [] none (.call false) (c3 (x 5) (n2 (.iAddr 1) (ld (fa 2 (n1 .nilChk (x 0)))) (x 1)) (ld (n2 (.iAddr 1) (ld (fa 6 (n1 .nilChk (x 0)))) (x
 1))))) (q (.hv [] [] [] none (.call false) (c3 (x 5) (n2 (.iAddr 1) (ld (fa 5 (n1 .nilChk (x 0)))) (x 1)) (ld (n2 (.iAddr 1) (ld (fa 6 (n1 .nilChk (x 0)))) (x
 1))))) (q (q (s [(7,i 1)]) (.block 4 (.loop (q (.cond (b .leq (x 7) (i 5)) .skip (.exit 4)) (q (.block 5 (.hv [] [] [] none (.call false) (c3 (x 5) (n2
 (.iAddrA 6 1) (n2 (.iAddr 6) (ld (fa 4 (n1 .nilChk (x 0)))) (x 1)) (x 7)) (ld (n2 (.iAddr 1) (ld (fa 6 (n1 .nilChk (x 0)))) (x 1)))))) (s [(7,b .add (x 7) (i
 1))])))))) (q (s [(13,i 0)]) (.block 6 (.loop (q (.cond (b .lss (x 13) (i 12)) .skip (.exit 6)) (q (.block 7 (q (s [(8,x 13)]) (q (.hv [] [] [] none (.call
 false) (c3 (x 5) (n2 (.iAddrA 12 1) (n2 (.iAddr 12) (ld (fa 1 (n1 .nilChk (x 0)))) (x 1)) (x 8)) (x 6))) (q (.cond (b .lss (x 1) (n1 .len (ld (fa 0 (n1
 .nilChk (x 0)))))) (.hv [] [] [] none (.call false) (c3 (x 5) (n2 (.iAddrA 12 1) (n2 (.iAddr 12) (ld (fa 1 (n1 .nilChk (x 0)))) (x 1)) (x 8)) (b .add (i 2)
 (ld (n2 (.iAddrA 12 1) (n2 (.iAddr 12) (ld (fa 1 (n1 .nilChk (x 0)))) (b .add (x 1) (i 1))) (b .mul (b .quo (x 8) (i 3)) (i 3))))))) .skip) (q (s [(16,i 0),
 (15,n1 .len (ld (n2 (.iAddrA 12 1) (x 2) (x 8)))),(14,ld (n2 (.iAddrA 12 1) (x 2) (x 8)))]) (.block 8 (.loop (q (.cond (b .lss (x 16) (x 15)) .skip (.exit
 8)) (q (.block 9 (q (q (.hv [(17,n1 (.ld 3 true) (n2 (.iAddr 3) (x 14) (x 16)))] [] [] (some 9) (.alloc [.int .i64 0,.int .i64 0,.int .i64 0]) .nil) (.hv
 [] [] [] none (.st 3) (c2 (x 9) (x 17)))) (.hv [] [] [] none (.call false) (c3 (x 5) (n2 (.iAddrA 12 1) (n2 (.iAddr 12) (ld (fa 1 (n1 .nilChk (x 0)))) (x 1))
 (x 8)) (b .add (i 1) (ld (n2 (.iAddrA 12 1) (n2 (.iAddr 12) (ld (fa 1 (n1 .nilChk (x 0)))) (b .add (x 1) (ld (fa 1 (x 9))))) (ld (fa 2 (x 9)))))))))) (s [(16,
 b .add (x 16) (i 1))])))))))))) (s [(13,b .add (x 13) (i 1))])))))))))))))))))))
def xQ:CF:=⟨2,18,[],Dz,.plain⟩
def Jc:List Nat:=[0,1,4,5,6,7,8,9,10,12,13,16,20,116,162,163,164,167]
def Dq:Stm:=
 q (q (h 3 .box (c1 (x 1))) (s [(4,.cst (.slice none 0 0))])) (q (s [(5,.cst (.slice none 0 0))]) (q (q (s [(7,ld (fa 0 (x 3)))]) (.block 0 (.cond (b .eql (x
 7) (i 0)) (q (q (q (cl 8 71 (c3 (x 0) (ld (fa 1 (x 3))) (ld (fa 2 (x 3))))) (s [(10,i 0),(9,n1 .len (x 8))])) (.block 1 (.loop (q (.cond (b .lss (x 10) (x
 9)) .skip (.exit 1)) (q (.block 2 (q (q (.hv [(11,n1 (.ld 3 true) (n2 (.iAddr 3) (x 8) (x 10)))] [] [] (some 6) (.alloc [.int .i64 0,.int .i64 0,.int .i64
 0]) .nil) (.hv [] [] [] none (.st 3) (c2 (x 6) (x 11)))) (q (.hv [(12,x 5)] [] [] (some 13) (.bSl [.int .i64 0,.int .i64 0,.int .i64 0,.int .i64 0,.int
 .i64 0] 1 [0]) (c1 (n2 (.build [.int .i64 0,.int .i64 0,.int .i64 0,.int .i64 0,.int .i64 0] [(0,1),(1,4)]) (ld (fa 0 (x 6))) (.node (.build [.int .i64
 0,.int .i64 0,.int .i64 0,.int .i64 0] [(0,1),(1,1),(2,1)]) (c3 (i 0) (b .add (ld (fa 1 (x 3))) (ld (fa 1 (x 6)))) (ld (fa 2 (x 6)))))))) (q (h 14
 (.app 5 [.int .i64 0,.int .i64 0,.int .i64 0,.int .i64 0,.int .i64 0]) (c2 (x 12) (x 13))) (s [(5,x 14)]))))) (s [(10,b .add (x 10) (i 1))])))))) (q
 (.cond (b .lss (ld (fa 1 (x 3))) (n1 .len (ld (fa 0 (n1 .nilChk (x 0)))))) (q (.hv [(15,x 5)] [] [] (some 16) (.bSl [.int .i64 0,.int .i64 0,.int .i64 0,
 .int .i64 0,.int .i64 0] 1 [0]) (c1 (n2 (.build [.int .i64 0,.int .i64 0,.int .i64 0,.int .i64 0,.int .i64 0] [(0,1),(1,4)]) (i 913) (.node (.build
 [.int .i64 0,.int .i64 0,.int .i64 0,.int .i64 0] [(0,1),(1,1),(2,1)]) (c3 (i 1) (ld (fa 1 (x 3))) (b .mul (b .quo (ld (fa 2 (x 3))) (i 3)) (i
 3))))))) (q (h 17 (.app 5 [.int .i64 0,.int .i64 0,.int .i64 0,.int .i64 0,.int .i64 0]) (c2 (x 15) (x 16))) (s [(5,x 17)]))) .skip) (q (q (.hv [(18,x
 5)] [] [] (some 19) (.call false) (c2 (.cst (.func (.func 73) #[] #[])) (ld (fa 1 (x 3))))) (q (h 20 (.app 5 [.int .i64 0,.int .i64 0,.int .i64 0,.int .i64
 0,.int .i64 0]) (c2 (x 18) (x 19))) (s [(4,x 20)]))) .ret))) (.cond (b .eql (x 7) (i 1)) (q (q (.hv [(21,x 5)] [] [] (some 22) (.bSl [.int .i64 0,.int
 .i64 0,.int .i64 0,.int .i64 0,.int .i64 0] 1 [0]) (c1 (n2 (.build [.int .i64 0,.int .i64 0,.int .i64 0,.int .i64 0,.int .i64 0] [(0,1),(1,4)]) (n1
 (.cvt .i64) (ld (n2 (.iAddr 1) (ld (fa 0 (n1 .nilChk (x 0)))) (ld (fa 1 (x 3)))))) (.node (.build [.int .i64 0,.int .i64 0,.int .i64 0,.int .i64 0] [(0,
 1),(1,1),(2,1)]) (c3 (i 0) (b .add (ld (fa 1 (x 3))) (i 1)) (ld (fa 2 (x 3)))))))) (q (h 23 (.app 5 [.int .i64 0,.int .i64 0,.int .i64 0,.int .i64 0,
 .int .i64 0]) (c2 (x 21) (x 22))) (s [(4,x 23)]))) .ret) (q (q (s [(24,b .eql (x 7) (i 2))]) (.cond (x 24) .skip (s [(24,b .eql (x 7) (i 3))]))) (.cond (x
 24) (q (q (cl 25 74 (c2 (x 0) (n1 (.ld 4 true) (x 3)))) (s [(4,x 25)])) .ret) (.cond (b .eql (x 7) (i 4)) (q (.cond (p (b .lss (ld (fa 2 (x 3))) (i 5)) (b
 .lss (ld (fa 1 (x 3))) (n1 .len (ld (fa 0 (n1 .nilChk (x 0)))))) (.cst (.bool false))) (q (.hv [(26,x 5)] [] [] (some 27) (.bSl [.int .i64 0,.int .i64 0,
 .int .i64 0,.int .i64 0,.int .i64 0] 1 [0]) (c1 (n2 (.build [.int .i64 0,.int .i64 0,.int .i64 0,.int .i64 0,.int .i64 0] [(0,1),(1,4)]) (n1 (.cvt
 .i64) (ld (n2 (.iAddr 1) (ld (fa 0 (n1 .nilChk (x 0)))) (ld (fa 1 (x 3)))))) (.node (.build [.int .i64 0,.int .i64 0,.int .i64 0,.int .i64 0] [(0,1),(1,
 1),(2,1)]) (c3 (i 4) (b .add (ld (fa 1 (x 3))) (i 1)) (b .add (ld (fa 2 (x 3))) (i 1))))))) (q (h 28 (.app 5 [.int .i64 0,.int .i64 0,.int .i64 0,.int
 .i64 0,.int .i64 0]) (c2 (x 26) (x 27))) (s [(5,x 28)]))) .skip) (q (q (.hv [(29,x 5)] [] [] (some 30) (.call false) (c2 (.cst (.func (.func 73) #[] #[]))
 (ld (fa 1 (x 3))))) (q (h 31 (.app 5 [.int .i64 0,.int .i64 0,.int .i64 0,.int .i64 0,.int .i64 0]) (c2 (x 29) (x 30))) (s [(4,x 31)]))) .ret)) (.cond (b
 .eql (x 7) (i 5)) (q (q (cl 32 75 (c3 (x 0) (n1 (.ld 4 true) (x 3)) (x 2))) (s [(4,x 32)])) .ret) .skip)))))))) (q (q (cl 33 73 (c1 (ld (fa 1 (x 3))))) (s
 [(4,x 33)])) .ret)))
def xI:CF:=⟨3,34,[(.var 4)],Dq,.plain⟩
def Ht:List Nat:=[0,1,2,4,6,7,9,11,19,20,21,24,25,37,38,48,57,58,59,62,63,66,83,84,85,90,106,124,125,126,129,130,136,139]
def D7:Stm:=
 q (s [(5,.cst (.bool false)),(4,i 0),(3,i 0)]) (q (q (cl 15 56 (c1 (x 1))) (s [(7,ix 1 (x 15)),(6,ix 0 (x 15))])) (q (s [(8,i 0)]) (q (q (s [(9,i 0)])
 (.block 0 (.loop (q (.cond (b .lss (x 9) (i 2)) .skip (.exit 0)) (q (.block 1 (q (s [(10,b .quo (x 2) (i 30))]) (q (.cond (b .eql (x 9) (i 1)) (s [(10,b
 .rem (x 2) (i 30))]) .skip) (q (q (cl 16 49 (c3 (x 6) (x 7) (x 10))) (s [(14,ix 3 (x 16)),(13,ix 2 (x 16)),(12,ix 1 (x 16)),(11,ix 0 (x 16))])) (q
 (.cond (p (n1 (.un .not) (x 14)) (.cst (.bool true)) (p (b .geq (x 11) (i 0)) (p (b .eql (x 8) (n1 .len (x 0))) (.cst (.bool true)) (b .neq (n1 (.cvt .i64)
 (ld (n2 (.iAddr 1) (x 0) (x 8)))) (x 11))) (.cst (.bool false)))) (q (s [(5,.cst (.bool false)),(4,i 0),(3,i 0)]) .ret) .skip) (q (.cond (b .geq (x 11)
 (i 0)) (s [(8,b .add (x 8) (i 1))]) .skip) (s [(7,x 13),(6,x 12)]))))))) (s [(9,b .add (x 9) (i 1))])))))) (q (q (.hv [(17,x 8)] [] [] (some 18) (.call
 false) (c3 (.cst (.func (.func 76) #[] #[])) (x 6) (x 7))) (s [(5,.cst (.bool true)),(4,x 18),(3,x 17)])) .ret))))
def zW:CF:=⟨3,19,[(.var 3),(.var 4),(.var 5)],D7,.plain⟩
def IM:List Nat:=[0,1,2,6,7,8,9,10,11,12,13,14,15,16,17,20,37,69,72]
def EA:Stm:=
 q (s [(1,.cst (.slice none 0 0))]) (q (q (h 8 (.bSl [.int .i64 0] 1 [0]) (c1 (i 901))) (s [(2,x 8)])) (q (.cond (b .eql (b .rem (n1 .len (x 0)) (i 6)) (i 0))
 (q (h 9 (.bSl [.int .i64 0] 1 [0]) (c1 (i 924))) (s [(2,x 9)])) .skip) (q (s [(3,i 0)]) (q (.block 0 (.loop (q (.cond (b .leq (b .add (x 3) (i 6)) (n1 .len
 (x 0))) .skip (.exit 0)) (q (.block 1 (q (s [(4,i 0)]) (q (q (s [(5,i 0)]) (.block 2 (.loop (q (.cond (b .lss (x 5) (i 6)) .skip (.exit 2)) (q (.block 3 (s
 [(4,b .add (b .mul (i 256) (x 4)) (n1 (.cvt .i64) (ld (n2 (.iAddr 1) (x 0) (b .add (x 3) (x 5))))))])) (s [(5,b .add (x 5) (i 1))])))))) (q (s [(6,i
 656100000000)]) (q (s [(7,i 0)]) (.block 4 (.loop (q (.cond (b .lss (x 7) (i 5)) .skip (.exit 4)) (q (.block 5 (q (q (.hv [(10,x 2)] [] [] (some 11) (.bSl
 [.int .i64 0] 1 [0]) (c1 (b .rem (b .quo (x 4) (x 6)) (i 900)))) (q (h 12 (.app 1 [.int .i64 0]) (c2 (x 10) (x 11))) (s [(2,x 12)]))) (q (s [(6,b .quo (x 6)
 (i 900))]) (.cond (b .eql (x 6) (i 0)) (s [(6,i 1)]) .skip)))) (s [(7,b .add (x 7) (i 1))])))))))))) (s [(3,b .add (x 3) (i 6))]))))) (q (.block 6 (.loop
 (q (.cond (b .lss (x 3) (n1 .len (x 0))) .skip (.exit 6)) (q (.block 7 (q (.hv [(13,x 2)] [] [] (some 14) (.bSl [.int .i64 0] 1 [0]) (c1 (n1 (.cvt .i64) (ld
 (n2 (.iAddr 1) (x 0) (x 3)))))) (q (h 15 (.app 1 [.int .i64 0]) (c2 (x 13) (x 14))) (s [(2,x 15)])))) (s [(3,b .add (x 3) (i 1))]))))) (q (s [(1,x 2)])
 .ret))))))
def yf:CF:=⟨1,16,[(.var 1)],EA,.plain⟩
def KT:List Nat:=[0,2,3,4,5,6,7,8,9,14,40,45,46,57,63,64]
def Cq:Stm:=
 q (s [(2,i 0),(1,i 0)]) (q (.cond (b .lss (x 0) (i 4)) (q (s [(2,i 0),(1,x 0)]) .ret) .skip) (q (.cond (b .lss (x 0) (i 7)) (q (s [(2,i 1),(1,b .sub (x
 0) (i 4))]) .ret) .skip) (q (s [(2,i 2),(1,i 1)]) .ret)))
def xJ:CF:=⟨1,3,[(.var 1),(.var 2)],Cq,.plain⟩
def Lv:List Nat:=[0,2,3]
def C3:Stm:=
 q (s [(3,.cst (.bool false)),(2,.cst (.string ⟨ #[] ⟩))]) (q (q (cl 4 77 (c2 (x 0) (x 1))) (s [(3,ix 1 (x 4)),(2,ix 0 (x 4))])) .ret)
def xu:CF:=⟨2,5,[(.var 2),(.var 3)],C3,.plain⟩
def LX:List Nat:=[0,1,4,5,8]
def DL:Stm:=
 q (s [(3,.cst (.slice none 0 0))]) (q (q (h 9 (.mkSl [.int .u32 0]) (c2 (b .add (n1 .len (x 0)) (i 1)) (b .add (n1 .len (x 0)) (i 1)))) (s [(4,x 9)])) (q (s
 [(5,x 2)]) (q (q (s [(12,i 0),(11,n1 .len (x 0)),(10,x 0)]) (.block 0 (.loop (q (.cond (b .lss (x 12) (x 11)) .skip (.exit 0)) (q (.block 1 (q (s [(7,
 ld (n2 (.iAddr 1) (x 10) (x 12))),(6,x 12)]) (q (q (cl 13 78 (c1 (b .add (b .mul (n1 (.cvt .u64) (x 7)) (n1 (.cvt .u64) (x 1))) (n1 (.cvt .u64) (x 5))))) (q
 (h 8 (.alloc [.int .u32 0,.int .u32 0]) .nil) (.hv [] [] [] none (.st 2) (c2 (x 8) (x 13))))) (q (.hv [(16,n2 (.iAddr 1) (x 4) (x 6)),(15,ld (n2 (.iAddrA
 2 1) (x 8) (i 1))),(14,n2 (.iAddrA 2 1) (x 8) (i 1))] [] [] none (.st 1) (c2 (n2 (.iAddr 1) (x 4) (x 6)) (ld (n2 (.iAddrA 2 1) (x 8) (i 0))))) (q (s [(5,x
 15)]) (.dist (x 16) (x 14))))))) (s [(12,b .add (x 12) (i 1))])))))) (q (.hv [] [] [] none (.st 1) (c2 (n2 (.iAddr 1) (x 4) (n1 .len (x 0))) (x 5))) (q (q
 (cl 17 79 (c1 (x 4))) (s [(3,x 17)])) .ret)))))
def zs:CF:=⟨3,18,[(.var 3)],DL,.plain⟩
def Lj:List Nat:=[0,1,2,6,7,8,9,10,11,15,17,18,19,32,37,38,39,47]
def CT:Stm:=
 q (h 2 (.alloc [.bool false,.slice none 0 0]) .nil) (q (.cond (b .eql (n1 .len (x 1)) (i 0)) (q (.hv [] [] [] none (.st 2) (c2 (x 2) (.node (.build [.bool
 false,.slice none 0 0] []) .nil))) .ret) .skip) (q (.hv [] [] [] none (.st 2) (c2 (x 2) (n2 (.build [.bool false,.slice none 0 0] [(0,1),(1,1)]) (x 0) (x
 1)))) .ret))
def xB:CF:=⟨2,3,[(.node (.ld 2 true) (.cons (.var 2) .nil))],CT,.plain⟩
def IH:List Nat:=[0,1,4]
def Ec:Stm:=
 q (q (h 1 .box (c1 (x 0))) (s [(2,.cst (.bool false))])) (q (s [(3,n1 .len (ld (fa 1 (x 1))))]) (q (.cond (b .eql (x 3) (i 0)) (q (s [(2,n1 (.un .not) (ld
 (fa 0 (x 1))))]) .ret) .skip) (q (s [(2,p (b .leq (x 3) (i 512)) (b .neq (ld (n2 (.iAddr 1) (ld (fa 1 (x 1))) (b .sub (x 3) (i 1)))) (.cst (.int .u32 0)))
 (.cst (.bool false)))]) .ret)))
def yN:CF:=⟨1,4,[(.var 2)],Ec,.plain⟩
def I2:List Nat:=[0,1,2,3]
def En:Stm:=
 q (s [(3,.cst (.int .u32 0)),(2,.cst (.slice none 0 0))]) (q (q (h 6 (.mkSl [.int .u32 0]) (c2 (n1 .len (x 0)) (n1 .len (x 0)))) (s [(2,x 6)])) (q (q (s
 [(4,b .sub (n1 .len (x 0)) (i 1))]) (.block 0 (.loop (q (.cond (b .geq (x 4) (i 0)) .skip (.exit 0)) (q (.block 1 (q (s [(5,b .or (b .shl (n1 (.cvt .u64) (x
 3)) (.cst (.int .u64 32))) (n1 (.cvt .u64) (ld (n2 (.iAddr 1) (x 0) (x 4)))))]) (q (.hv [(7,n1 (.cvt .u32) (b .rem (x 5) (n1 (.cvt .u64) (x 1))))] [] [] none
 (.st 1) (c2 (n2 (.iAddr 1) (x 2) (x 4)) (n1 (.cvt .u32) (b .quo (x 5) (n1 (.cvt .u64) (x 1)))))) (s [(3,x 7)])))) (s [(4,b .sub (x 4) (i 1))])))))) (q (q
 (cl 8 79 (c1 (x 2))) (s [(3,x 3),(2,x 8)])) .ret)))
def zR:CF:=⟨2,9,[(.var 2),(.var 3)],En,.plain⟩
def J5:List Nat:=[0,1,4,5,6,7,10,38,41]
def Ep:Stm:=
 q (s [(2,b .sub (n1 .len (x 0)) (i 1)),(1,i 0)]) (.block 0 (.loop (q (.cond (b .lss (x 1) (x 2)) .skip (.exit 0)) (q (.block 1 (q (.hv [(5,ld (n2 (.iAddr 1)
 (x 0) (x 1))),(4,x 2),(3,x 0)] [] [] none (.st 1) (c2 (n2 (.iAddr 1) (x 0) (x 1)) (ld (n2 (.iAddr 1) (x 0) (x 2))))) (.hv [] [] [] none (.st 1) (c2 (n2
 (.iAddr 1) (x 3) (x 4)) (x 5))))) (s [(2,b .sub (x 2) (i 1)),(1,b .add (x 1) (i 1))])))))
def vU:CF:=⟨1,6,[],Ep,.plain⟩
def Lt:List Nat:=[0,2,3,16,17,25]
def Hi:Stm:=
 q (s [(2,.cst .nilIface)]) (q (.hv [] [] [] none (.call false) (c2 (.cst (.func (.func 80) #[] #[])) (x 0))) (q (q (.hv [(4,ld (fa 1 (n1 .nilChk (x 0)))),(3,
 x 0)] [] [] (some 5) (.bSl [.int .u8 0] 1 [0]) (c1 (x 1))) (q (h 6 (.app 1 [.int .u8 0]) (c2 (x 4) (x 5))) (.hv [] [] [] none (.st 1) (c2 (fa 1 (n1 .nilChk (x
 3))) (x 6))))) (q (s [(2,.cst .nilIface)]) .ret)))
def GV:CF:=⟨2,7,[(.var 2)],Hi,.plain⟩
def JM:List Nat:=[0,1,4,7,11,13,14]
def I9:Stm:=
 q (s [(1,.cst (.string ⟨ #[] ⟩))]) (q (q (cl 2 81 (c1 (x 0))) (s [(1,x 2)])) .ret)
def GF:CF:=⟨1,3,[(.var 1)],I9,.plain⟩
def KW:List Nat:=[0,2,4]
def Ls:Stm:=
 q (s [(3,.cst .nilIface),(2,i 0)]) (q (.hv [] [] [] none (.call false) (c2 (.cst (.func (.func 80) #[] #[])) (x 0))) (q (q (.hv [(4,x 0)] [] [] (some 5)
 (.appS [.int .u8 0]) (c2 (ld (fa 1 (n1 .nilChk (x 0)))) (x 1))) (.hv [] [] [] none (.st 1) (c2 (fa 1 (n1 .nilChk (x 4))) (x 5)))) (q (s [(3,.cst .nilIface),
 (2,n1 .lenS (x 1))]) .ret)))
def Gk:CF:=⟨2,6,[(.var 2),(.var 3)],Ls,.plain⟩
def KG:List Nat:=[0,1,4,5,8,14]
def I1:Stm:=
 q (s [(2,.cst (.string ⟨ #[] ⟩))]) (q (q (s [(9,x 1)]) (.block 0 (.cond (b .eql (x 9) (i 0)) (q (s [(2,.cst (.string ⟨ #[] ⟩))]) .ret) (.cond (b .eql (x 9)
 (i 1)) (q (s [(2,x 0)]) .ret) .skip)))) (q (.cond (b .lss (x 1) (i 0)) (.hv [] [] [] none .pan (c1 (n1 (.mkI 9) (.cst (.string ⟨ #[115,116,114,105,110,
 103,115,58,32,110,101,103,97,116,105,118,101,32,82,101,112,101,97,116,32,99,111,117,110,116] ⟩))))) .skip) (q (q (cl 10 82 (c2 (n1
 (.cvt .u64) (n1 .lenS (x 0))) (n1 (.cvt .u64) (x 1)))) (s [(4,ix 1 (x 10)),(3,ix 0 (x 10))])) (q (.cond (p (b .gtr (x 3) (.cst (.int .u64 0))) (.cst (.bool
 true)) (b .gtr (x 4) (.cst (.int .u64 9223372036854775807)))) (.hv [] [] [] none .pan (c1 (n1 (.mkI 9) (.cst (.string Ju))))) .skip) (q (s [(5,n1 (.cvt
 .i64) (x 4))]) (q (.cond (b .eql (n1 .lenS (x 0)) (i 0)) (q (s [(2,.cst (.string ⟨ #[] ⟩))]) .ret) .skip) (q (q (s [(11,n2 .idxS (x 0) (i 0))]) (.block 1 (q
 (q (s [(12,b .eql (x 11) (.cst (.int .u8 32)))]) (.cond (x 12) .skip (q (s [(12,b .eql (x 11) (.cst (.int .u8 45)))]) (.cond (x 12) .skip (q (s [(12,b .eql
 (x 11) (.cst (.int .u8 48)))]) (.cond (x 12) .skip (q (s [(12,b .eql (x 11) (.cst (.int .u8 61)))]) (.cond (x 12) .skip (s [(12,b .eql (x 11) (.cst (.int
 .u8 9)))]))))))))) (.cond (x 12) (.block 2 (q (.hv [(13,b .leq (x 5) (i 128))] [] [(b .leq (x 5) (i 128),true)] (some 14) (.call false) (c3 (.cst (.func
 (.func 83) #[] #[])) (.cst (.string GU)) (x 0))) (.cond (p (x 13) (x 14) (.cst (.bool false))) (q (s [(2,n2 (.slS false true) (.cst (.string GU)) (x
 5))]) .ret) (q (.hv [(15,b .leq (x 5) (i 128))] [] [(b .leq (x 5) (i 128),true)] (some 16) (.call false) (c3 (.cst (.func (.func 83) #[] #[])) (.cst
 (.string G7)) (x 0))) (.cond (p (x 15) (x 16) (.cst (.bool false))) (q (s [(2,n2 (.slS false true) (.cst (.string G7)) (x 5))]) .ret) (q (.hv [(17,b
 .leq (x 5) (i 64))] [] [(b .leq (x 5) (i 64),true)] (some 18) (.call false) (c3 (.cst (.func (.func 83) #[] #[])) (.cst (.string Ga)) (x 0))) (.cond (p (x
 17) (x 18) (.cst (.bool false))) (q (s [(2,n2 (.slS false true) (.cst (.string Ga)) (x 5))]) .ret) (q (.hv [(19,b .leq (x 5) (i 128))] [] [(b .leq (x 5)
 (i 128),true)] (some 20) (.call false) (c3 (.cst (.func (.func 83) #[] #[])) (.cst (.string Gt)) (x 0))) (.cond (p (x 19) (x 20) (.cst (.bool false))) (q
 (s [(2,n2 (.slS false true) (.cst (.string Gt)) (x 5))]) .ret) (q (.hv [(21,b .leq (x 5) (i 64))] [] [(b .leq (x 5) (i 64),true)] (some 22) (.call false)
 (c3 (.cst (.func (.func 83) #[] #[])) (.cst (.string HC)) (x 0))) (.cond (p (x 21) (x 22) (.cst (.bool false))) (q (s [(2,n2 (.slS false true) (.cst
 (.string HC)) (x 5))]) .ret) .skip))))))))))) .skip)))) (q (s [(6,x 5)]) (q (.cond (b .gtr (x 5) (i 8192)) (q (s [(6,b .mul (b .quo (i 8192) (n1 .lenS (x
 0))) (n1 .lenS (x 0)))]) (.cond (b .eql (x 6) (i 0)) (s [(6,n1 .lenS (x 0))]) .skip)) .skip) (q (h 7 (.alloc [.pointer none,.slice none 0 0]) .nil) (q (.hv
 [] [] [] none (.call false) (c3 (.cst (.func (.func 84) #[] #[])) (x 7) (x 5))) (q (.hv [] [] [] none (.call false) (c3 (.cst (.func (.func 65) #[] #[])) (x
 7) (x 0))) (q (.block 3 (.loop (q (q (cl 23 85 (c1 (x 7))) (.cond (b .lss (x 23) (x 5)) .skip (.exit 3))) (.block 4 (q (q (.hv [(24,x 5)] [] [] (some 25)
 (.call false) (c2 (.cst (.func (.func 85) #[] #[])) (x 7))) (q (.hv [(26,b .sub (x 24) (x 25))] [] [] (some 27) (.call false) (c2 (.cst (.func (.func 85) #[]
 #[])) (x 7))) (s [(8,.node (.minmax false) (c3 (x 26) (x 27) (x 6)))]))) (q (cl 28 67 (c1 (x 7))) (.hv [] [] [] none (.call false) (c3 (.cst (.func (.func
 65) #[] #[])) (x 7) (n2 (.slS false true) (x 28) (x 8)))))))))) (q (q (cl 29 67 (c1 (x 7))) (s [(2,x 29)])) .ret))))))))))))))
def Gf:CF:=⟨2,30,[(.var 2)],I1,.plain⟩
def JF:List Nat:=[0,1,4,5,6,7,8,9,10,11,26,42,43,52,54,61,63,70,72,79,81,88,90,111,114,115,116,117,120,124]
def Ey:Stm:=
 q (q (h 2 .box (c1 (x 0))) (q (h 3 (.alloc [.int .i64 0,.int .i64 0]) .nil) (s [(5,.cst (.bool false)),(4,i 0)]))) (q (q (.hv [(7,n2 (.build [.int .i64 0,
 .int .i64 0] [(0,1),(1,1)]) (ld (fa 0 (x 2))) (i 0))] [] [] (some 6) (.alloc [.int .i64 0,.int .i64 0]) .nil) (.hv [] [] [] none (.st 2) (c2 (x 6) (x
 7)))) (q (.block 0 (.cond (b .eql (ld (fa 1 (x 2))) (i 1)) (q (.cond (b .geq (x 1) (i 29)) (q (q (.hv [] [] [] none (.st 2) (c2 (x 3) (n1 (.ld 2 true) (x
 2)))) (s [(5,.cst (.bool false)),(4,i (-1))])) .ret) .skip) (q (q (.hv [(8,n1 (.cvt .i64) (n2 .idxS (.cst (.string ⟨ #[59,60,62,64,91,92,93,95,96,
 126,33,13,9,44,58,10,45,46,36,47,34,124,42,40,41,63,123,125,39] ⟩)) (x 1)))] [] [] none (.st 2) (c2 (x 3) (n1 (.ld 2 true) (x 6)))) (s [(5,
 .cst (.bool true)),(4,x 8)])) .ret)) (.cond (b .eql (ld (fa 1 (x 2))) (i 2)) (q (.cond (b .gtr (x 1) (i 26)) (q (q (.hv [] [] [] none (.st 2) (c2 (x 3) (n1
 (.ld 2 true) (x 2)))) (s [(5,.cst (.bool false)),(4,i (-1))])) .ret) .skip) (q (q (.hv [(9,n1 (.ld 2 true) (x 6))] [] [] (some 10) (.callK 1) (c (x 6) (c3
 (.cst (.func (.func 86) #[] #[])) (i 65) (x 1)))) (q (.hv [] [] [] none (.st 2) (c2 (x 3) (x 9))) (s [(5,.cst (.bool true)),(4,x 10)]))) .ret)) (.cond (p
 (b .eql (ld (fa 0 (x 2))) (i 0)) (b .leq (x 1) (i 26)) (.cst (.bool false))) (q (q (.hv [(11,n1 (.ld 2 true) (x 6))] [] [] (some 12) (.callK 1) (c (x 6) (c3
 (.cst (.func (.func 86) #[] #[])) (i 65) (x 1)))) (q (.hv [] [] [] none (.st 2) (c2 (x 3) (x 11))) (s [(5,.cst (.bool true)),(4,x 12)]))) .ret) (.cond (p
 (b .eql (ld (fa 0 (x 2))) (i 1)) (b .leq (x 1) (i 26)) (.cst (.bool false))) (q (q (.hv [(13,n1 (.ld 2 true) (x 6))] [] [] (some 14) (.callK 1) (c (x 6) (c3
 (.cst (.func (.func 86) #[] #[])) (i 97) (x 1)))) (q (.hv [] [] [] none (.st 2) (c2 (x 3) (x 13))) (s [(5,.cst (.bool true)),(4,x 14)]))) .ret) (.cond (p
 (b .eql (ld (fa 0 (x 2))) (i 2)) (b .lss (x 1) (i 25)) (.cst (.bool false))) (q (q (.hv [(15,n1 (.cvt .i64) (n2 .idxS (.cst (.string ⟨ #[48,49,50,51,52,
 53,54,55,56,57,38,13,9,44,58,35,45,46,36,47,43,37,42,61,94] ⟩)) (x 1)))] [] [] none (.st 2) (c2 (x 3) (n1 (.ld 2 true) (x 6)))) (s [(5,
 .cst (.bool true)),(4,x 15)])) .ret) (.cond (p (b .eql (ld (fa 0 (x 2))) (i 2)) (b .eql (x 1) (i 26)) (.cst (.bool false))) (q (q (.hv [] [] [] none (.st 2)
 (c2 (x 3) (n1 (.ld 2 true) (x 6)))) (s [(5,.cst (.bool true)),(4,i 32)])) .ret) (.cond (p (b .eql (ld (fa 0 (x 2))) (i 3)) (b .lss (x 1) (i 29)) (.cst
 (.bool false))) (q (q (.hv [(16,n1 (.cvt .i64) (n2 .idxS (.cst (.string ⟨ #[59,60,62,64,91,92,93,95,96,126,33,13,9,44,58,10,45,46,36,47,
 34,124,42,40,41,63,123,125,39] ⟩)) (x 1)))] [] [] none (.st 2) (c2 (x 3) (n1 (.ld 2 true) (x 6)))) (s [(5,.cst (.bool true)),(4,x 16)])) .ret)
 .skip)))))))) (q (q (cl 17 87 (c2 (n1 (.ld 2 true) (x 2)) (x 1))) (q (.hv [] [] [] none (.st 2) (c2 (x 3) (x 17))) (s [(5,.cst (.bool true)),(4,i (-1))])))
 .ret)))
def yV:CF:=⟨2,18,[(.node (.ld 2 true) (.cons (.var 3) .nil)),(.var 4),(.var 5)],Ey,.plain⟩
def II:List Nat:=[0,1,2,4,5,6,7,10,21,29,31,40,42,51,53,65,86,89]
def D2:Stm:=
 q (.block 0 (.loop (q (.cond (b .gtr (x 2) (i 0)) .skip (.exit 0)) (q (.block 1 (q (s [(3,i 0)]) (q (q (s [(9,i 0),(8,n1 .len (n2 (.sl 1 false true false)
 (x 1) (i 5))),(7,n2 (.sl 1 false true false) (x 1) (i 5))]) (.block 2 (.loop (q (.cond (b .lss (x 9) (x 8)) .skip (.exit 2)) (q (.block 3 (q (s [(4,ld (n2
 (.iAddr 1) (x 7) (x 9)))]) (s [(3,b .add (b .mul (x 3) (i 900)) (x 4))]))) (s [(9,b .add (x 9) (i 1))])))))) (q (.cond (b .geq (x 3) (i 281474976710656))
 (.hv [] [] [] none .pan (c1 (n1 (.mkI 47) (n1 (.build [.int .i64 0] [(0,1)]) (i 22))))) .skip) (q (q (s [(5,i 40)]) (.block 4 (.loop (q (.cond (b .geq (x 5)
 (i 0)) .skip (.exit 4)) (q (.block 5 (q (.hv [(11,ld (fa 4 (n1 .nilChk (x 0)))),(10,x 0)] [] [] (some 12) (.bSl [.int .u8 0] 1 [0]) (c1 (n1 (.cvt .u8) (b
 .shr (x 3) (x 5))))) (q (h 13 (.app 1 [.int .u8 0]) (c2 (x 11) (x 12))) (.hv [] [] [] none (.st 1) (c2 (fa 4 (n1 .nilChk (x 10))) (x 13)))))) (s [(5,b .sub
 (x 5) (i 8))])))))) (s [(1,n2 (.sl 1 true false false) (x 1) (i 5))])))))) (s [(2,b .sub (x 2) (i 1))]))))) (q (s [(16,i 0),(15,n1 .len (x 1)),(14,x
 1)]) (.block 6 (.loop (q (.cond (b .lss (x 16) (x 15)) .skip (.exit 6)) (q (.block 7 (q (s [(6,ld (n2 (.iAddr 1) (x 14) (x 16)))]) (q (.cond (b .gtr (x 6) (i
 255)) (.hv [] [] [] none .pan (c1 (n1 (.mkI 47) (n1 (.build [.int .i64 0] [(0,1)]) (i 22))))) .skip) (q (.hv [(18,ld (fa 4 (n1 .nilChk (x 0)))),(17,x 0)]
 [] [] (some 19) (.bSl [.int .u8 0] 1 [0]) (c1 (n1 (.cvt .u8) (x 6)))) (q (h 20 (.app 1 [.int .u8 0]) (c2 (x 18) (x 19))) (.hv [] [] [] none (.st 1) (c2 (fa 4
 (n1 .nilChk (x 17))) (x 20)))))))) (s [(16,b .add (x 16) (i 1))]))))))
def yH:CF:=⟨3,21,[],D2,.plain⟩
def LV:List Nat:=[0,1,2,6,8,9,11,17,18,19,36,40,45,46,51,52,53,61,65,68,69]
def C6:Stm:=
 q (s [(2,i 0)]) (q (s [(3,i 0)]) (q (.block 0 (.loop (q (.cond (p (p (p (b .lss (x 3) (i 44)) (b .lss (b .add (x 1) (x 3)) (n1 .len (ld (fa 0 (n1 .nilChk (x
 0)))))) (.cst (.bool false))) (b .geq (ld (n2 (.iAddr 1) (ld (fa 0 (n1 .nilChk (x 0)))) (b .add (x 1) (x 3)))) (.cst (.int .u8 48))) (.cst (.bool false))) (b
 .leq (ld (n2 (.iAddr 1) (ld (fa 0 (n1 .nilChk (x 0)))) (b .add (x 1) (x 3)))) (.cst (.int .u8 57))) (.cst (.bool false))) .skip (.exit 0)) (.block 1 (s [(3,b
 .add (x 3) (i 1))]))))) (q (s [(2,x 3)]) .ret)))
def zy:CF:=⟨2,4,[(.var 2)],C6,.plain⟩
def LC:List Nat:=[0,1,4,5]
def CN:Stm:=
 q (s [(3,.cst (.slice none 0 0))]) (q (s [(4,.cst (.slice none 0 0))]) (q (q (s [(13,i 0)]) (.block 0 (.loop (q (.cond (b .lss (x 13) (i 30)) .skip (.exit
 0)) (q (.block 1 (q (s [(5,x 13)]) (q (q (.hv [(14,x 0)] [] [] (some 15) (.call false) (c2 (.cst (.func (.func 89) #[] #[])) (x 2))) (q (cl 16 88 (c (x 14)
 (c3 (x 15) (x 5) (x 1)))) (q (.hv [(19,ix 2 (x 16)),(18,ix 1 (x 16)),(17,ix 0 (x 16))] [] [] (some 6) (.alloc [.int .i64 0,.int .i64 0]) .nil) (q (.hv
 [] [] [] none (.st 2) (c2 (x 6) (x 17))) (s [(8,x 19),(7,x 18)]))))) (q (.cond (n1 (.un .not) (x 8)) (.exit 1) .skip) (q (s [(20,i 0)]) (.block 2 (.loop
 (q (.cond (b .lss (x 20) (i 30)) .skip (.exit 2)) (q (.block 3 (q (s [(9,x 20)]) (q (q (cl 21 88 (c (x 0) (c3 (n1 (.ld 2 true) (x 6)) (x 9) (b .add (x 1) (x
 7))))) (q (.hv [(24,ix 2 (x 21)),(23,ix 1 (x 21)),(22,ix 0 (x 21))] [] [] (some 10) (.alloc [.int .i64 0,.int .i64 0]) .nil) (q (.hv [] [] [] none (.st
 2) (c2 (x 10) (x 22))) (s [(12,x 24),(11,x 23)])))) (.cond (x 12) (q (.hv [(27,b .add (x 7) (x 11)),(26,b .add (b .mul (i 30) (x 5)) (x 9)),(25,x 4)]
 [] [] (some 28) (.call false) (c2 (.cst (.func (.func 90) #[] #[])) (n1 (.ld 2 true) (x 10)))) (q (h 29 (.bSl [.int .i64 0,.int .i64 0,.int .i64 0] 1 [0])
 (c1 (.node (.build [.int .i64 0,.int .i64 0,.int .i64 0] [(0,1),(1,1),(2,1)]) (c3 (x 26) (x 27) (x 28))))) (q (h 30 (.app 3 [.int .i64 0,.int .i64 0,
 .int .i64 0]) (c2 (x 25) (x 29))) (s [(4,x 30)])))) .skip)))) (s [(20,b .add (x 20) (i 1))])))))))))) (s [(13,b .add (x 13) (i 1))])))))) (q (s [(3,x 4)])
 .ret)))
def yt:CF:=⟨3,31,[(.var 3)],CN,.plain⟩
def Kr:List Nat:=[0,1,2,6,7,8,9,10,11,12,13,14,15,16,20,22,25,26,27,28,31,41,42,43,44,46,50,53,55,57,58]
def DH:Stm:=
 .cond (b .lss (x 1) (ld (n1 .nilChk (x 0)))) (q (.hv [] [] [] none (.st 1) (c2 (n1 .nilChk (x 0)) (x 1))) (.hv [] [] [] none (.st 1) (c2 (x 2) (.cst (.bool
 true))))) .skip
def yr:CF:=⟨3,3,[],DH,.plain⟩
def Km:List Nat:=[0,1,2]
def EP:Stm:=
 q (s [(1,.cst (.slice none 0 0))]) (q (q (h 2 (.bSl [.int .i64 0,.int .i64 0,.int .i64 0,.int .i64 0,.int .i64 0] 4 [0,1,2,3]) (c (n2 (.build [.int .i64
 0,.int .i64 0,.int .i64 0,.int .i64 0,.int .i64 0] [(0,1),(1,4)]) (i 900) (n2 (.build [.int .i64 0,.int .i64 0,.int .i64 0,.int .i64 0] [(0,1),(1,
 1)]) (i 0) (x 0))) (c3 (n2 (.build [.int .i64 0,.int .i64 0,.int .i64 0,.int .i64 0,.int .i64 0] [(0,1),(1,4)]) (i 901) (n2 (.build [.int .i64 0,.int
 .i64 0,.int .i64 0,.int .i64 0] [(0,1),(1,1)]) (i 3) (x 0))) (n2 (.build [.int .i64 0,.int .i64 0,.int .i64 0,.int .i64 0,.int .i64 0] [(0,1),(1,
 4)]) (i 902) (n2 (.build [.int .i64 0,.int .i64 0,.int .i64 0,.int .i64 0] [(0,1),(1,1)]) (i 5) (x 0))) (n2 (.build [.int .i64 0,.int .i64 0,.int .i64
 0,.int .i64 0,.int .i64 0] [(0,1),(1,4)]) (i 924) (n2 (.build [.int .i64 0,.int .i64 0,.int .i64 0,.int .i64 0] [(0,1),(1,1)]) (i 2) (x 0)))))) (s
 [(1,x 2)])) .ret)
def yk:CF:=⟨1,3,[(.var 1)],EP,.plain⟩
def Je:List Nat:=[0,2,15]
def CR:Stm:=
 q (q (h 2 .box (c1 (x 1))) (s [(3,.cst (.slice none 0 0))])) (q (s [(4,.cst (.slice none 0 0))]) (q (.cond (p (b .eql (ld (fa 2 (x 2))) (i 0)) (b .eql (ld (fa
 0 (x 2))) (i 2)) (.cst (.bool false))) (q (cl 8 73 (c1 (ld (fa 1 (x 2))))) (s [(4,x 8)])) .skip) (q (.cond (p (p (b .eql (ld (fa 2 (x 2))) (i 0)) (b .eql (ld
 (fa 0 (x 2))) (i 3)) (.cst (.bool false))) (b .lss (ld (fa 1 (x 2))) (n1 .len (ld (fa 0 (n1 .nilChk (x 0)))))) (.cst (.bool false))) (q (.hv [(9,x 4)] [] []
 (some 10) (.bSl [.int .i64 0,.int .i64 0,.int .i64 0,.int .i64 0,.int .i64 0] 1 [0]) (c1 (n2 (.build [.int .i64 0,.int .i64 0,.int .i64 0,.int .i64 0,
 .int .i64 0] [(0,1),(1,4)]) (n1 (.cvt .i64) (ld (n2 (.iAddr 1) (ld (fa 0 (n1 .nilChk (x 0)))) (ld (fa 1 (x 2)))))) (.node (.build [.int .i64 0,.int .i64
 0,.int .i64 0,.int .i64 0] [(0,1),(1,1),(2,1)]) (c3 (i 4) (b .add (ld (fa 1 (x 2))) (i 1)) (i 1)))))) (q (h 11 (.app 5 [.int .i64 0,.int .i64 0,.int
 .i64 0,.int .i64 0,.int .i64 0]) (c2 (x 9) (x 10))) (s [(4,x 11)]))) .skip) (q (.cond (b .gtr (b .add (ld (fa 1 (x 2))) (i 6)) (n1 .len (ld (fa 0 (n1
 .nilChk (x 0)))))) (q (s [(3,x 4)]) .ret) .skip) (q (s [(5,i 0)]) (q (q (s [(14,i 0),(13,n1 .len (.node (.sl 1 true true false) (c3 (ld (fa 0 (n1 .nilChk
 (x 0)))) (ld (fa 1 (x 2))) (b .add (ld (fa 1 (x 2))) (i 6))))),(12,.node (.sl 1 true true false) (c3 (ld (fa 0 (n1 .nilChk (x 0)))) (ld (fa 1 (x 2))) (b
 .add (ld (fa 1 (x 2))) (i 6))))]) (.block 0 (.loop (q (.cond (b .lss (x 14) (x 13)) .skip (.exit 0)) (q (.block 1 (q (s [(6,ld (n2 (.iAddr 1) (x 12) (x
 14)))]) (s [(5,b .add (b .shl (x 5) (.cst (.int .u64 8))) (n1 (.cvt .i64) (x 6)))]))) (s [(14,b .add (x 14) (i 1))])))))) (q (q (s [(16,i 0),(15,b .sub
 (i 4) (ld (fa 2 (x 2))))]) (.block 2 (.loop (q (.cond (b .lss (x 16) (x 15)) .skip (.exit 2)) (q (.block 3 (s [(5,b .quo (x 5) (i 900))])) (s [(16,b .add (x
 16) (i 1))])))))) (q (q (.hv [(17,.node (.build [.int .i64 0,.int .i64 0,.int .i64 0,.int .i64 0] [(0,1),(1,1),(2,1)]) (c3 (ld (fa 0 (x 2))) (ld (fa
 1 (x 2))) (b .add (ld (fa 2 (x 2))) (i 1))))] [] [] (some 7) (.alloc [.int .i64 0,.int .i64 0,.int .i64 0,.int .i64 0]) .nil) (.hv [] [] [] none (.st 4)
 (c2 (x 7) (x 17)))) (q (.cond (b .eql (ld (fa 2 (x 2))) (i 4)) (.hv [] [] [] none (.st 4) (c2 (x 7) (n2 (.build [.int .i64 0,.int .i64 0,.int .i64 0,.int
 .i64 0] [(0,1),(1,1)]) (ld (fa 0 (x 2))) (b .add (ld (fa 1 (x 2))) (i 6))))) .skip) (q (q (.hv [(18,x 4)] [] [] (some 19) (.bSl [.int .i64 0,.int .i64 0,
 .int .i64 0,.int .i64 0,.int .i64 0] 1 [0]) (c1 (n2 (.build [.int .i64 0,.int .i64 0,.int .i64 0,.int .i64 0,.int .i64 0] [(0,1),(1,4)]) (b .rem (x
 5) (i 900)) (n1 (.ld 4 true) (x 7))))) (q (h 20 (.app 5 [.int .i64 0,.int .i64 0,.int .i64 0,.int .i64 0,.int .i64 0]) (c2 (x 18) (x 19))) (s [(3,x
 20)]))) .ret))))))))))
def y8:CF:=⟨2,21,[(.var 3)],CR,.plain⟩
def Kd:List Nat:=[0,1,3,4,5,6,8,9,20,39,54,55,75,76,77,89,90,102,112,117,118]
def BU:Stm:=
 q (q (h 3 .box (c1 (x 1))) (s [(4,.cst (.slice none 0 0))])) (q (.cond (b .gtr (ld (fa 2 (x 3))) (i 0)) (q (q (.hv [(14,b .add (ld (fa 3 (x 3))) (i 1)),(13,
 ld (fa 2 (x 3))),(12,ld (fa 1 (x 3))),(10,ld (fa 3 (x 3))),(9,fa 3 (x 3))] [] [] (some 8) (.callK 4) (c (fa 3 (x 3)) (c (fa 1 (x 3)) (c (fa 2 (x 3)) (c
 (fa 3 (x 3)) (c (.cst (.func (.func 91) #[] #[])) (c3 (x 0) (ld (fa 1 (x 3))) (ld (fa 2 (x 3)))))))))) (q (.hv [(11,ld (n2 (.iAddr 1) (x 8) (x 10)))] [] []
 (some 15) (.callK 2) (c (x 9) (c (n2 (.iAddr 1) (x 8) (x 10)) (c (.cst (.func (.func 92) #[] #[])) (c3 (x 12) (x 13) (x 14)))))) (q (h 16 (.bSl [.int .i64 0,
 .int .i64 0,.int .i64 0,.int .i64 0,.int .i64 0] 1 [0]) (c1 (n2 (.build [.int .i64 0,.int .i64 0,.int .i64 0,.int .i64 0,.int .i64 0] [(0,1),(1,4)])
 (x 11) (x 15)))) (s [(4,x 16)])))) .ret) .skip) (q (q (cl 17 73 (c1 (ld (fa 1 (x 3))))) (s [(5,x 17)])) (q (q (s [(6,i 1)]) (.block 0 (.loop (q (q (.hv
 [(18,x 6)] [] [] (some 19) (.call false) (c3 (.cst (.func (.func 70) #[] #[])) (x 0) (ld (fa 1 (x 3))))) (.cond (b .leq (x 18) (x 19)) .skip (.exit 0))) (q
 (.block 1 (q (q (cl 20 92 (c3 (ld (fa 1 (x 3))) (x 6) (i 1))) (q (h 7 (.alloc [.int .i64 0,.int .i64 0,.int .i64 0,.int .i64 0]) .nil) (.hv [] [] [] none
 (.st 4) (c2 (x 7) (x 20))))) (q (cl 21 35 (c2 (x 0) (n1 (.ld 4 true) (x 7)))) (.cond (b .eql (x 21) (x 2)) (q (.hv [(24,n1 (.ld 4 true) (x 7)),(22,x 5)] []
 [] (some 23) (.callK 1) (c (x 7) (c (.cst (.func (.func 91) #[] #[])) (c3 (x 0) (ld (fa 1 (x 3))) (x 6))))) (q (h 25 (.bSl [.int .i64 0,.int .i64 0,.int
 .i64 0,.int .i64 0,.int .i64 0] 1 [0]) (c1 (n2 (.build [.int .i64 0,.int .i64 0,.int .i64 0,.int .i64 0,.int .i64 0] [(0,1),(1,4)]) (ld (n2 (.iAddr
 1) (x 23) (i 0))) (x 24)))) (q (h 26 (.app 5 [.int .i64 0,.int .i64 0,.int .i64 0,.int .i64 0,.int .i64 0]) (c2 (x 22) (x 25))) (s [(5,x 26)]))))
 .skip)))) (s [(6,b .add (x 6) (i 1))])))))) (q (s [(4,x 5)]) .ret))))
def wj:CF:=⟨3,27,[(.var 4)],BU,.plain⟩
def JI:List Nat:=[0,1,2,4,6,7,8,9,18,19,20,22,24,26,29,30,32,35,36,40,47,50,53,58,61,63,64]
def CU:Stm:=
 q (s [(2,i 0)]) (q (.cond (b .eql (x 1) (i 1)) (q (s [(2,b .add (x 0) (i 4))]) .ret) .skip) (q (.cond (b .eql (x 1) (i 2)) (q (s [(2,i 7)]) .ret) .skip) (q
 (s [(2,x 0)]) .ret)))
def yR:CF:=⟨2,3,[(.var 2)],CU,.plain⟩
def HQ:List Nat:=[0,1,4]
def EJ:Stm:=
 q (s [(3,.cst (.bool false)),(2,.cst (.string ⟨ #[] ⟩))]) (q (q (cl 4 93 (c2 (x 0) (x 1))) (.cond (n1 (.un .not) (x 4)) (q (s [(3,.cst (.bool false)),(2,x
 0)]) .ret) .skip)) (q (s [(3,.cst (.bool true)),(2,n2 (.slS true false) (x 0) (n1 .lenS (x 1)))]) .ret))
def xX:CF:=⟨2,5,[(.var 2),(.var 3)],EJ,.plain⟩
def Jt:List Nat:=[0,1,4,5,8]
def Cc:Stm:=
 q (h 1 (.alloc [.int .u32 0,.int .u32 0]) .nil) (q (.hv [] [] [] none (.st 2) (c2 (x 1) (n2 (.build [.int .u32 0,.int .u32 0] [(0,1),(1,1)]) (n1 (.cvt
 .u32) (x 0)) (n1 (.cvt .u32) (b .shr (x 0) (.cst (.int .u64 32))))))) .ret)
def yY:CF:=⟨1,2,[(.node (.ld 2 true) (.cons (.var 1) .nil))],Cc,.plain⟩
def Ie:List Nat:=[0,2]
def B9:Stm:=
 q (s [(1,.cst (.slice none 0 0))]) (q (s [(2,n1 .len (x 0))]) (q (.block 0 (.loop (q (.cond (p (b .gtr (x 2) (i 0)) (b .eql (ld (n2 (.iAddr 1) (x 0) (b .sub
 (x 2) (i 1)))) (.cst (.int .u32 0))) (.cst (.bool false))) .skip (.exit 0)) (.block 1 (s [(2,b .sub (x 2) (i 1))]))))) (q (s [(1,n2 (.sl 1 false true false)
 (x 0) (x 2))]) .ret)))
def w9:CF:=⟨1,3,[(.var 1)],B9,.plain⟩
def JU:List Nat:=[0,2,3]
def Kq:Stm:=
 q (s [(1,.cst (.string ⟨ #[] ⟩))]) (q (q (cl 2 95 (c2 (x 0) (i 10))) (s [(1,x 2)])) .ret)
def Fu:CF:=⟨1,3,[(.var 1)],Kq,.plain⟩
def Hb:List Nat:=[0,2,4]
def HK:Stm:=
 q (q (s [(3,.cst (.int .u64 0)),(2,.cst (.int .u64 0))]) (.cond (.cst (.bool false)) (q (q (cl 8 96 (c2 (n1 (.cvt .u32) (x 0)) (n1 (.cvt .u32) (x 1)))) (s
 [(5,ix 1 (x 8)),(4,ix 0 (x 8))])) (q (s [(3,n1 (.cvt .u64) (x 5)),(2,n1 (.cvt .u64) (x 4))]) .ret)) .skip)) (q (q (cl 9 97 (c2 (x 0) (x 1))) (s [(7,ix
 1 (x 9)),(6,ix 0 (x 9))])) (q (s [(3,x 7),(2,x 6)]) .ret))
def FO:CF:=⟨2,10,[(.var 2),(.var 3)],HK,.plain⟩
def Ku:List Nat:=[0,1,4,5,6,7,8,9,15,25]
def Jk:Stm:=
 q (s [(2,.cst (.bool false))]) (q (q (cl 3 93 (c2 (x 0) (x 1))) (s [(2,x 3)])) .ret)
def GC:CF:=⟨2,4,[(.var 2)],Jk,.plain⟩
def Lm:List Nat:=[0,1,4,7]
def JR:Stm:=
 q (s [(1,i 0)]) (q (s [(1,n1 .len (ld (fa 1 (n1 .nilChk (x 0)))))]) .ret)
def Gx:CF:=⟨1,2,[(.var 1)],JR,.plain⟩
def IQ:List Nat:=[0,2]
def Cn:Stm:=
 q (s [(2,i 0)]) (q (.cond (b .eql (x 1) (i 26)) (q (s [(2,i 32)]) .ret) .skip) (q (s [(2,b .add (x 0) (x 1))]) .ret))
def zS:CF:=⟨2,3,[(.var 2)],Cn,.plain⟩
def LM:List Nat:=[0,1,4]
def CZ:Stm:=
 q (q (h 2 .box (c1 (x 0))) (h 3 (.alloc [.int .i64 0,.int .i64 0]) .nil)) (q (q (s [(4,ld (fa 0 (x 2)))]) (.block 0 (.cond (b .eql (x 4) (i 0)) (q (s [(5,x
 1)]) (.block 1 (.cond (b .eql (x 5) (i 27)) (q (.hv [] [] [] none (.st 2) (c2 (x 3) (n2 (.build [.int .i64 0,.int .i64 0] [(0,1),(1,1)]) (i 1) (i 0))))
 .ret) (.cond (b .eql (x 5) (i 28)) (q (.hv [] [] [] none (.st 2) (c2 (x 3) (n2 (.build [.int .i64 0,.int .i64 0] [(0,1),(1,1)]) (i 2) (i 0)))) .ret)
 .skip)))) (.cond (b .eql (x 4) (i 1)) (q (s [(6,x 1)]) (.block 2 (.cond (b .eql (x 6) (i 27)) (q (.hv [] [] [] none (.st 2) (c2 (x 3) (n2 (.build [.int .i64
 0,.int .i64 0] [(0,1),(1,1)]) (i 1) (i 2)))) .ret) (.cond (b .eql (x 6) (i 28)) (q (.hv [] [] [] none (.st 2) (c2 (x 3) (n2 (.build [.int .i64 0,.int
 .i64 0] [(0,1),(1,1)]) (i 2) (i 0)))) .ret) .skip)))) (.cond (b .eql (x 4) (i 2)) (q (s [(7,x 1)]) (.block 3 (.cond (b .eql (x 7) (i 25)) (q (.hv [] [] []
 none (.st 2) (c2 (x 3) (n2 (.build [.int .i64 0,.int .i64 0] [(0,1),(1,1)]) (i 3) (i 0)))) .ret) (.cond (b .eql (x 7) (i 27)) (q (.hv [] [] [] none (.st
 2) (c2 (x 3) (n2 (.build [.int .i64 0,.int .i64 0] [(0,1),(1,1)]) (i 1) (i 0)))) .ret) (.cond (b .eql (x 7) (i 28)) (q (.hv [] [] [] none (.st 2) (c2 (x
 3) (n2 (.build [.int .i64 0,.int .i64 0] [(0,1),(1,1)]) (i 0) (i 0)))) .ret) .skip))))) (q (.hv [] [] [] none (.st 2) (c2 (x 3) (n2 (.build [.int .i64 0,
 .int .i64 0] [(0,1),(1,1)]) (i 0) (i 0)))) .ret)))))) (q (.hv [] [] [] none (.st 2) (c2 (x 3) (n2 (.build [.int .i64 0,.int .i64 0] [(0,1),(1,1)]) (ld
 (fa 0 (x 2))) (i 1)))) .ret))
def xk:CF:=⟨2,8,[(.node (.ld 2 true) (.cons (.var 3) .nil))],CZ,.plain⟩
def LH:List Nat:=[0,1,2,4,6,10,19,28]
def CW:Stm:=
 q (q (h 4 .box (c1 (x 1))) (q (h 5 (.alloc [.int .i64 0,.int .i64 0]) .nil) (s [(7,.cst (.bool false)),(6,i 0)]))) (q (q (cl 11 68 (c2 (n1 (.ld 2 true) (x
 4)) (x 2))) (q (.hv [(14,ix 2 (x 11)),(13,ix 1 (x 11)),(12,ix 0 (x 11))] [] [] (some 8) (.alloc [.int .i64 0,.int .i64 0]) .nil) (q (.hv [] [] [] none
 (.st 2) (c2 (x 8) (x 12))) (s [(10,x 14),(9,x 13)])))) (q (.cond (n1 (.un .not) (x 10)) (q (q (.hv [] [] [] none (.st 2) (c2 (x 5) (n1 (.ld 2 true) (x
 4)))) (s [(7,.cst (.bool false)),(6,i 0)])) .ret) .skip) (q (.cond (b .lss (x 9) (i 0)) (q (q (.hv [] [] [] none (.st 2) (c2 (x 5) (n1 (.ld 2 true) (x
 8)))) (s [(7,.cst (.bool true)),(6,i 0)])) .ret) .skip) (q (.cond (p (b .geq (x 3) (n1 .len (ld (fa 0 (n1 .nilChk (x 0)))))) (.cst (.bool true)) (b .neq
 (n1 (.cvt .i64) (ld (n2 (.iAddr 1) (ld (fa 0 (n1 .nilChk (x 0)))) (x 3)))) (x 9))) (q (q (.hv [] [] [] none (.st 2) (c2 (x 5) (n1 (.ld 2 true) (x 4)))) (s
 [(7,.cst (.bool false)),(6,i 0)])) .ret) .skip) (q (q (.hv [] [] [] none (.st 2) (c2 (x 5) (n1 (.ld 2 true) (x 8)))) (s [(7,.cst (.bool true)),(6,i
 1)])) .ret)))))
def yd:CF:=⟨4,15,[(.node (.ld 2 true) (.cons (.var 5) .nil)),(.var 6),(.var 7)],CW,.plain⟩
def KP:List Nat:=[0,1,2,3,5,8,9,10,11,12,13,17,18,19,20]
def ED:Stm:=
 q (h 1 (.alloc [.int .i64 0,.int .i64 0]) .nil) (q (.hv [] [] [] none (.st 2) (c2 (x 1) (n2 (.build [.int .i64 0,.int .i64 0] [(0,1),(1,1)]) (b .quo (x 0)
 (i 3)) (b .rem (x 0) (i 3))))) .ret)
def zG:CF:=⟨1,2,[(.node (.ld 2 true) (.cons (.var 1) .nil))],ED,.plain⟩
def J4:List Nat:=[0,2]
def Ea:Stm:=
 q (q (h 1 .box (c1 (x 0))) (s [(2,i 0)])) (q (s [(2,b .add (b .mul (i 3) (ld (fa 0 (x 1)))) (ld (fa 1 (x 1))))]) .ret)
def zE:CF:=⟨1,3,[(.var 2)],Ea,.plain⟩
def Iz:List Nat:=[0,1,2]
def D8:Stm:=
 q (s [(3,.cst (.slice none 0 0))]) (q (q (.hv [(7,n2 (.build [.int .i64 0,.int .i64 0] [(0,1),(1,1)]) (x 1) (x 2))] [] [] (some 4) (.alloc [.int .i64 0,
 .int .i64 0]) .nil) (.hv [] [] [] none (.st 2) (c2 (x 4) (x 7)))) (q (s [(6,ix 1 (n2 (.mget [1,1] true (.slice none 0 0) true) (ld (fa 7 (n1 .nilChk (x
 0)))) (n1 (.ld 2 true) (x 4)))),(5,ix 0 (n2 (.mget [1,1] true (.slice none 0 0) true) (ld (fa 7 (n1 .nilChk (x 0)))) (n1 (.ld 2 true) (x 4))))]) (q (.cond
 (n1 (.un .not) (x 6)) (q (q (cl 8 24 (c1 (n1 .b2s (.node (.sl 1 true true false) (c3 (ld (fa 0 (n1 .nilChk (x 0)))) (x 1) (b .add (x 1) (x 2))))))) (s [(5,x
 8)])) (.hv [] [] [] none (.mset [1,1] true) (c3 (ld (fa 7 (n1 .nilChk (x 0)))) (n1 (.ld 2 true) (x 4)) (x 5)))) .skip) (q (s [(3,x 5)]) .ret))))
def yX:CF:=⟨3,9,[(.var 3)],D8,.plain⟩
def J6:List Nat:=[0,1,2,6,7,8,9,12,34]
def E4:Stm:=
 q (h 3 (.alloc [.int .i64 0,.int .i64 0,.int .i64 0,.int .i64 0]) .nil) (q (.block 0 (.cond (b .lss (x 2) (b .add (b .quo (x 1) (i 3)) (i 1))) (q (.hv [] []
 [] none (.st 4) (c2 (x 3) (.node (.build [.int .i64 0,.int .i64 0,.int .i64 0,.int .i64 0] [(0,1),(1,1),(2,1),(3,1)]) (c (i 5) (c3 (x 0) (x 1) (x
 2)))))) .ret) (.cond (b .eql (x 1) (i 44)) (q (.hv [] [] [] none (.st 4) (c2 (x 3) (n2 (.build [.int .i64 0,.int .i64 0,.int .i64 0,.int .i64 0] [(0,1),
 (1,1)]) (i 5) (b .add (x 0) (x 1))))) .ret) .skip))) (q (.hv [] [] [] none (.st 4) (c2 (x 3) (n2 (.build [.int .i64 0,.int .i64 0,.int .i64 0,.int .i64 0]
 [(0,1),(1,1)]) (i 6) (b .add (x 0) (x 1))))) .ret))
def zT:CF:=⟨3,4,[(.node (.ld 4 true) (.cons (.var 3) .nil))],E4,.plain⟩
def J9:List Nat:=[0,1,2,6]
def Dc:Stm:=
 q (s [(2,.cst (.bool false))]) (q (s [(2,p (b .geq (n1 .lenS (x 0)) (n1 .lenS (x 1))) (b .eql (n2 (.slS false true) (x 0) (n1 .lenS (x 1))) (x 1)) (.cst
 (.bool false)))]) .ret)
def xY:CF:=⟨2,3,[(.var 2)],Dc,.plain⟩
def Jw:List Nat:=[0,1,4]
def Hc:Stm:=
 q (s [(2,.cst (.string ⟨ #[] ⟩))]) (q (.cond (b .eql (x 1) (i 10)) (q (.cond (p (b .leq (i 0) (x 0)) (b .lss (x 0) (i 100)) (.cst (.bool false))) (q (q (cl 7
 99 (c1 (x 0))) (s [(2,x 7)])) .ret) .skip) (q (h 3 (.alloc [.int .u8 0,.int .u8 0,.int .u8 0,.int .u8 0,.int .u8 0,.int .u8 0,.int .u8 0,.int .u8 0,
 .int .u8 0,.int .u8 0,.int .u8 0,.int .u8 0,.int .u8 0,.int .u8 0,.int .u8 0,.int .u8 0,.int .u8 0,.int .u8 0,.int .u8 0,.int .u8 0,.int .u8 0,
 .int .u8 0,.int .u8 0,.int .u8 0]) .nil) (q (s [(4,n1 (.cvt .u64) (x 0))]) (q (.cond (b .lss (x 0) (i 0)) (s [(4,n1 (.un .neg) (x 4))]) .skip) (q (q (cl 8
 100 (c1 (x 4))) (s [(5,x 8)])) (q (.hv [] [] [] none (.call false) (c3 (.cst (.func (.func 101) #[] #[])) (.node (.slA 24 1 true true false) (c3 (x 3) (i 1)
 (b .add (i 1) (x 5)))) (x 4))) (q (.cond (b .lss (x 0) (i 0)) (q (.hv [] [] [] none (.st 1) (c2 (n2 (.iAddrA 24 1) (x 3) (i 0)) (.cst (.int .u8 45)))) (q (s
 [(2,n1 .b2s (n2 (.slA 24 1 false true false) (x 3) (b .add (i 1) (x 5))))]) .ret)) .skip) (q (s [(2,n1 .b2s (.node (.slA 24 1 true true false) (c3 (x 3) (i
 1) (b .add (i 1) (x 5)))))]) .ret)))))))) .skip) (q (q (cl 9 102 (c (.cst (.slice none 0 0)) (c (n1 (.cvt .u64) (x 0)) (c3 (x 1) (b .lss (x 0) (i 0)) (.cst
 (.bool false)))))) (.sets [(6,ix 1 (x 9))] [ix 0 (x 9)])) (q (s [(2,x 6)]) .ret)))
def Gj:CF:=⟨2,10,[(.var 2)],Hc,.plain⟩
def IJ:List Nat:=[0,1,4,5,6,7,9,19,27,50]
def Ij:Stm:=
 q (s [(3,.cst (.int .u32 0)),(2,.cst (.int .u32 0))]) (q (s [(4,b .mul (n1 (.cvt .u64) (x 0)) (n1 (.cvt .u64) (x 1)))]) (q (s [(3,n1 (.cvt .u32) (x 4)),
 (2,n1 (.cvt .u32) (b .shr (x 4) (.cst (.int .u64 32))))]) .ret))
def Gq:CF:=⟨2,5,[(.var 2),(.var 3)],Ij,.plain⟩
def KR:List Nat:=[0,1,4,5,6]
def Hh:Stm:=
 q (s [(3,.cst (.int .u64 0)),(2,.cst (.int .u64 0))]) (q (s [(4,b .and (x 0) (.cst (.int .u64 4294967295)))]) (q (s [(5,b .shr (x 0) (.cst (.int .u64
 32)))]) (q (s [(6,b .and (x 1) (.cst (.int .u64 4294967295)))]) (q (s [(7,b .shr (x 1) (.cst (.int .u64 32)))]) (q (s [(8,b .mul (x 4) (x 6))]) (q (s [(9,
 b .add (b .mul (x 5) (x 6)) (b .shr (x 8) (.cst (.int .u64 32))))]) (q (s [(10,b .and (x 9) (.cst (.int .u64 4294967295)))]) (q (s [(11,b .shr (x 9) (.cst
 (.int .u64 32)))]) (q (s [(10,b .add (x 10) (b .mul (x 4) (x 7)))]) (q (s [(2,b .add (b .add (b .mul (x 5) (x 7)) (x 11)) (b .shr (x 10) (.cst (.int .u64
 32))))]) (q (s [(3,b .mul (x 0) (x 1))]) .ret)))))))))))
def Fy:CF:=⟨2,12,[(.var 2),(.var 3)],Hh,.plain⟩
def JC:List Nat:=[0,1,4,5,6,7,8,9,10,11,12,13]
def KE:Stm:=
 q (s [(1,.cst (.string ⟨ #[] ⟩))]) (q (.cond (b .lss (x 0) (i 10)) (q (s [(1,.node (.slS true true) (c3 (.cst (.string yQ)) (x 0) (b .add (x 0) (i 1))))])
 .ret) .skip) (q (s [(1,.node (.slS true true) (c3 (.cst (.string lI)) (b .mul (x 0) (i 2)) (b .add (b .mul (x 0) (i 2)) (i 2))))]) .ret))
def Gr:CF:=⟨1,2,[(.var 1)],KE,.plain⟩
def Lu:List Nat:=[0,2]
def G9:Stm:=
 q (s [(1,i 0)]) (q (q (cl 3 105 (c1 (x 0))) (q (cl 4 104 (c1 (x 3))) (s [(2,x 4)]))) (q (q (.hv [(5,x 2)] [] [] (some 6) (.call false) (c2 (.cst (.func
 (.func 106) #[] #[])) (b .geq (x 0) (ld (n2 (.iAddrA 20 1) (.cst (.pointer (some ⟨0,0,none⟩))) (x 2)))))) (s [(1,b .add (x 5) (x 6))])) .ret))
def Bl:CF:=⟨1,7,[(.var 1)],G9,.plain⟩
def Fj:List Nat:=[0,2,3,5,6,7,13]
def Fe:Stm:=
 q (s [(2,n1 .len (x 0))]) (q (.block 0 (.loop (q (.cond (b .geq (x 2) (i 8)) .skip (.exit 0)) (.block 1 (q (s [(3,n1 (.cvt .u32) (b .rem (x 1) (.cst (.int
 .u64 100000000))))]) (q (s [(1,b .quo (x 1) (.cst (.int .u64 100000000)))]) (q (s [(5,b .rem (x 3) (.cst (.int .u32 10000))),(4,b .quo (x 3) (.cst (.int
 .u32 10000)))]) (q (s [(7,b .mul (b .rem (x 5) (.cst (.int .u32 100))) (.cst (.int .u32 2))),(6,b .mul (b .quo (x 5) (.cst (.int .u32 100))) (.cst (.int
 .u32 2)))]) (q (s [(9,b .mul (b .rem (x 4) (.cst (.int .u32 100))) (.cst (.int .u32 2))),(8,b .mul (b .quo (x 4) (.cst (.int .u32 100))) (.cst (.int .u32
 2)))]) (q (q (.hv [(17,n2 .idxS (.cst (.string lI)) (x 7)),(16,b .sub (x 2) (i 2)),(15,x 0)] [] [] none (.st 1) (c2 (n2 (.iAddr 1) (x 0) (b .sub (x 2)
 (i 1))) (n2 .idxS (.cst (.string lI)) (b .add (x 7) (.cst (.int .u32 1)))))) (.hv [] [] [] none (.st 1) (c2 (n2 (.iAddr 1) (x 15) (x 16)) (x 17)))) (q (q
 (.hv [(20,n2 .idxS (.cst (.string lI)) (x 6)),(19,b .sub (x 2) (i 4)),(18,x 0)] [] [] none (.st 1) (c2 (n2 (.iAddr 1) (x 0) (b .sub (x 2) (i 3))) (n2
 .idxS (.cst (.string lI)) (b .add (x 6) (.cst (.int .u32 1)))))) (.hv [] [] [] none (.st 1) (c2 (n2 (.iAddr 1) (x 18) (x 19)) (x 20)))) (q (q (.hv [(23,n2
 .idxS (.cst (.string lI)) (x 9)),(22,b .sub (x 2) (i 6)),(21,x 0)] [] [] none (.st 1) (c2 (n2 (.iAddr 1) (x 0) (b .sub (x 2) (i 5))) (n2 .idxS (.cst
 (.string lI)) (b .add (x 9) (.cst (.int .u32 1)))))) (.hv [] [] [] none (.st 1) (c2 (n2 (.iAddr 1) (x 21) (x 22)) (x 23)))) (q (q (.hv [(26,n2 .idxS (.cst
 (.string lI)) (x 8)),(25,b .sub (x 2) (i 8)),(24,x 0)] [] [] none (.st 1) (c2 (n2 (.iAddr 1) (x 0) (b .sub (x 2) (i 7))) (n2 .idxS (.cst (.string lI))
 (b .add (x 8) (.cst (.int .u32 1)))))) (.hv [] [] [] none (.st 1) (c2 (n2 (.iAddr 1) (x 24) (x 25)) (x 26)))) (s [(2,b .sub (x 2) (i 8))])))))))))))))) (q (s
 [(10,n1 (.cvt .u32) (x 1))]) (q (.cond (b .geq (x 2) (i 4)) (q (s [(11,b .rem (x 10) (.cst (.int .u32 10000)))]) (q (s [(10,b .quo (x 10) (.cst (.int .u32
 10000)))]) (q (s [(13,b .mul (b .rem (x 11) (.cst (.int .u32 100))) (.cst (.int .u32 2))),(12,b .mul (b .quo (x 11) (.cst (.int .u32 100))) (.cst (.int
 .u32 2)))]) (q (q (.hv [(29,n2 .idxS (.cst (.string lI)) (x 13)),(28,b .sub (x 2) (i 2)),(27,x 0)] [] [] none (.st 1) (c2 (n2 (.iAddr 1) (x 0) (b .sub
 (x 2) (i 1))) (n2 .idxS (.cst (.string lI)) (b .add (x 13) (.cst (.int .u32 1)))))) (.hv [] [] [] none (.st 1) (c2 (n2 (.iAddr 1) (x 27) (x 28)) (x 29))))
 (q (q (.hv [(32,n2 .idxS (.cst (.string lI)) (x 12)),(31,b .sub (x 2) (i 4)),(30,x 0)] [] [] none (.st 1) (c2 (n2 (.iAddr 1) (x 0) (b .sub (x 2) (i
 3))) (n2 .idxS (.cst (.string lI)) (b .add (x 12) (.cst (.int .u32 1)))))) (.hv [] [] [] none (.st 1) (c2 (n2 (.iAddr 1) (x 30) (x 31)) (x 32)))) (s [(2,b
 .sub (x 2) (i 4))])))))) .skip) (q (.cond (b .geq (x 2) (i 2)) (q (s [(14,b .mul (b .rem (x 10) (.cst (.int .u32 100))) (.cst (.int .u32 2)))]) (q (s [(10,b
 .quo (x 10) (.cst (.int .u32 100)))]) (q (q (.hv [(35,n2 .idxS (.cst (.string lI)) (x 14)),(34,b .sub (x 2) (i 2)),(33,x 0)] [] [] none (.st 1) (c2 (n2
 (.iAddr 1) (x 0) (b .sub (x 2) (i 1))) (n2 .idxS (.cst (.string lI)) (b .add (x 14) (.cst (.int .u32 1)))))) (.hv [] [] [] none (.st 1) (c2 (n2 (.iAddr 1)
 (x 33) (x 34)) (x 35)))) (s [(2,b .sub (x 2) (i 2))])))) .skip) (.cond (b .gtr (x 2) (i 0)) (.hv [] [] [] none (.st 1) (c2 (n2 (.iAddr 1) (x 0) (i 0)) (n1
 (.cvt .u8) (b .add (.cst (.int .u32 48)) (x 10))))) .skip)))))
def CH:CF:=⟨2,36,[],Fe,.plain⟩
def Gc:List Nat:=[0,1,4,5,6,7,8,9,10,11,12,13,14,15,16,45,47,52,58,60,65,71,73,78,84,86,91,113,115,120,126,128,133,148,150,155]
def Fp:Stm:=
 q (s [(6,.cst (.string ⟨ #[] ⟩)),(5,.cst (.slice none 0 0))]) (q (.cond (p (p (b .lss (x 2) (i 2)) (.cst (.bool true)) (b .eql (x 2) (i 10))) (.cst (.bool
 true)) (b .gtr (x 2) (i 36))) (.hv [] [] [] none .pan (c1 (n1 (.mkI 9) (.cst (.string Ia))))) .skip) (q (h 7 (.alloc [.int .u8 0,.int .u8 0,.int .u8 0,
 .int .u8 0,.int .u8 0,.int .u8 0,.int .u8 0,.int .u8 0,.int .u8 0,.int .u8 0,.int .u8 0,.int .u8 0,.int .u8 0,.int .u8 0,.int .u8 0,.int .u8 0,
 .int .u8 0,.int .u8 0,.int .u8 0,.int .u8 0,.int .u8 0,.int .u8 0,.int .u8 0,.int .u8 0,.int .u8 0,.int .u8 0,.int .u8 0,.int .u8 0,.int .u8 0,
 .int .u8 0,.int .u8 0,.int .u8 0,.int .u8 0,.int .u8 0,.int .u8 0,.int .u8 0,.int .u8 0,.int .u8 0,.int .u8 0,.int .u8 0,.int .u8 0,.int .u8 0,
 .int .u8 0,.int .u8 0,.int .u8 0,.int .u8 0,.int .u8 0,.int .u8 0,.int .u8 0,.int .u8 0,.int .u8 0,.int .u8 0,.int .u8 0,.int .u8 0,.int .u8 0,
 .int .u8 0,.int .u8 0,.int .u8 0,.int .u8 0,.int .u8 0,.int .u8 0,.int .u8 0,.int .u8 0,.int .u8 0,.int .u8 0]) .nil) (q (s [(8,i 65)]) (q (.cond (x
 3) (s [(1,n1 (.un .neg) (x 1))]) .skip) (q (q (cl 14 107 (c1 (x 2))) (.cond (x 14) (q (q (cl 15 108 (c1 (n1 (.cvt .u64) (x 2)))) (s [(9,n1 (.cvt .u64) (x
 15))])) (q (s [(10,n1 (.cvt .u64) (x 2))]) (q (s [(11,b .sub (n1 (.cvt .u64) (x 2)) (.cst (.int .u64 1)))]) (q (.block 0 (.loop (q (.cond (b .geq (x 1) (x
 10)) .skip (.exit 0)) (.block 1 (q (s [(8,b .sub (x 8) (i 1))]) (q (.hv [] [] [] none (.st 1) (c2 (n2 (.iAddrA 65 1) (x 7) (x 8)) (n2 .idxS (.cst (.string
 yQ)) (b .and (x 1) (x 11))))) (s [(1,b .shr (x 1) (x 9))]))))))) (q (s [(8,b .sub (x 8) (i 1))]) (.hv [] [] [] none (.st 1) (c2 (n2 (.iAddrA 65 1) (x 7)
 (x 8)) (n2 .idxS (.cst (.string yQ)) (x 1))))))))) (q (s [(12,n1 (.cvt .u64) (x 2))]) (q (.block 2 (.loop (q (.cond (b .geq (x 1) (x 12)) .skip (.exit 2))
 (.block 3 (q (s [(8,b .sub (x 8) (i 1))]) (q (s [(13,b .quo (x 1) (x 12))]) (q (.hv [] [] [] none (.st 1) (c2 (n2 (.iAddrA 65 1) (x 7) (x 8)) (n2 .idxS
 (.cst (.string yQ)) (b .sub (x 1) (b .mul (x 13) (x 12)))))) (s [(1,x 13)])))))))) (q (s [(8,b .sub (x 8) (i 1))]) (.hv [] [] [] none (.st 1) (c2 (n2
 (.iAddrA 65 1) (x 7) (x 8)) (n2 .idxS (.cst (.string yQ)) (x 1))))))))) (q (.cond (x 3) (q (s [(8,b .sub (x 8) (i 1))]) (.hv [] [] [] none (.st 1) (c2 (n2
 (.iAddrA 65 1) (x 7) (x 8)) (.cst (.int .u8 45))))) .skip) (q (.cond (x 4) (q (q (h 16 (.app 1 [.int .u8 0]) (c2 (x 0) (n2 (.slA 65 1 true false false) (x 7)
 (x 8)))) (s [(5,x 16)])) .ret) .skip) (q (s [(6,n1 .b2s (n2 (.slA 65 1 true false false) (x 7) (x 8)))]) .ret))))))))
def Bs:CF:=⟨5,17,[(.var 5),(.var 6)],Fp,.plain⟩
def FN:List Nat:=[0,1,2,3,4,10,11,12,13,14,15,16,17,18,34,37,98]
def FG:Stm:=
 q (s [(1,i 0)]) (q (s [(1,b .shr (b .mul (x 0) (i 78913)) (.cst (.int .u64 18)))]) .ret)
def By:CF:=⟨1,2,[(.var 1)],FG,.plain⟩
def FC:List Nat:=[0,2]
def GN:Stm:=
 q (s [(1,i 0)]) (q (.cond (b .geq (x 0) (.cst (.int .u64 4294967296))) (q (s [(0,b .shr (x 0) (.cst (.int .u64 32)))]) (s [(1,i 32)])) .skip) (q (.cond (b
 .geq (x 0) (.cst (.int .u64 65536))) (q (s [(0,b .shr (x 0) (.cst (.int .u64 16)))]) (s [(1,b .add (x 1) (i 16))])) .skip) (q (.cond (b .geq (x 0) (.cst
 (.int .u64 256))) (q (s [(0,b .shr (x 0) (.cst (.int .u64 8)))]) (s [(1,b .add (x 1) (i 8))])) .skip) (q (s [(1,b .add (x 1) (n1 (.cvt .i64) (n2 .idxS
 (.cst (.string Hr)) (n1 (.cvt .u8) (x 0)))))]) .ret))))
def CC:CF:=⟨1,2,[(.var 1)],GN,.plain⟩
def Gv:List Nat:=[0,2]
def GD:Stm:=
 q (s [(1,i 0)]) (q (.cond (x 0) (q (s [(1,i 1)]) .ret) .skip) (q (s [(1,i 0)]) .ret))
def Bv:CF:=⟨1,2,[(.var 1)],GD,.plain⟩
def FK:List Nat:=[0,2]
def Ge:Stm:=
 q (s [(1,.cst (.bool false))]) (q (s [(1,b .eql (b .and (x 0) (b .sub (x 0) (i 1))) (i 0))]) .ret)
def CD:CF:=⟨1,2,[(.var 1)],Ge,.plain⟩
def FP:List Nat:=[0,2]
def FF:Stm:=
 q (q (s [(1,i 0)]) (.cond (.cst (.bool false)) (q (q (cl 2 109 (c1 (n1 (.cvt .u32) (x 0)))) (s [(1,x 2)])) .ret) .skip)) (q (q (cl 3 110 (c1 (x 0))) (s [(1,x
 3)])) .ret)
def Bw:CF:=⟨1,4,[(.var 1)],FF,.plain⟩
def FX:List Nat:=[0,2,5,7]
def Gz:Stm:=
 q (s [(1,i 0)]) (q (.cond (b .eql (x 0) (.cst (.int .u32 0))) (q (s [(1,i 32)]) .ret) .skip) (q (s [(1,n1 (.cvt .i64) (ld (n2 (.iAddrA 32 1) (.cst (.pointer
 (some ⟨2,0,none⟩))) (b .shr (b .mul (b .and (x 0) (n1 (.un .neg) (x 0))) (.cst (.int .u32 125613361))) (.cst (.int .u64 27))))))]) .ret))
def CE:CF:=⟨1,2,[(.var 1)],Gz,.plain⟩
def FI:List Nat:=[0,2]
def FZ:Stm:=
 q (s [(1,i 0)]) (q (.cond (b .eql (x 0) (.cst (.int .u64 0))) (q (s [(1,i 64)]) .ret) .skip) (q (s [(1,n1 (.cvt .i64) (ld (n2 (.iAddrA 64 1) (.cst (.pointer
 (some ⟨3,0,none⟩))) (b .shr (b .mul (b .and (x 0) (n1 (.un .neg) (x 0))) (.cst (.int .u64 285870213051353865))) (.cst (.int .u64 58))))))]) .ret))
def Bp:CF:=⟨1,2,[(.var 1)],FZ,.plain⟩
def GS:List Nat:=[0,2]
def Fh:Stm:=
 q (.hv [] [] [] none (.st 32) (c2 (.cst (.pointer (some ⟨2,0,none⟩))) (.node (.build [.int .u8 0,.int .u8 0,.int .u8 0,.int .u8 0,.int .u8 0,.int .u8 0,
 .int .u8 0,.int .u8 0,.int .u8 0,.int .u8 0,.int .u8 0,.int .u8 0,.int .u8 0,.int .u8 0,.int .u8 0,.int .u8 0,.int .u8 0,.int .u8 0,.int .u8 0,
 .int .u8 0,.int .u8 0,.int .u8 0,.int .u8 0,.int .u8 0,.int .u8 0,.int .u8 0,.int .u8 0,.int .u8 0,.int .u8 0,.int .u8 0,.int .u8 0,.int .u8 0]
 [(0,1),(1,1),(2,1),(3,1),(4,1),(5,1),(6,1),(7,1),(8,1),(9,1),(10,1),(11,1),(12,1),(13,1),(14,1),(15,1),(16,1),(17,1),(18,
 1),(19,1),(20,1),(21,1),(22,1),(23,1),(24,1),(25,1),(26,1),(27,1),(28,1),(29,1),(30,1),(31,1)]) (c (.cst (.int .u8 0)) (c (.cst
 (.int .u8 1)) (c (.cst (.int .u8 28)) (c (.cst (.int .u8 2)) (c (.cst (.int .u8 29)) (c (.cst (.int .u8 14)) (c (.cst (.int .u8 24)) (c (.cst (.int .u8 3)) (c
 (.cst (.int .u8 30)) (c (.cst (.int .u8 22)) (c (.cst (.int .u8 20)) (c (.cst (.int .u8 15)) (c (.cst (.int .u8 25)) (c (.cst (.int .u8 17)) (c (.cst (.int
 .u8 4)) (c (.cst (.int .u8 8)) (c (.cst (.int .u8 31)) (c (.cst (.int .u8 27)) (c (.cst (.int .u8 13)) (c (.cst (.int .u8 23)) (c (.cst (.int .u8 21)) (c
 (.cst (.int .u8 19)) (c (.cst (.int .u8 16)) (c (.cst (.int .u8 7)) (c (.cst (.int .u8 26)) (c (.cst (.int .u8 12)) (c (.cst (.int .u8 18)) (c (.cst (.int .u8
 6)) (c (.cst (.int .u8 11)) (c3 (.cst (.int .u8 5)) (.cst (.int .u8 10)) (.cst (.int .u8 9))))))))))))))))))))))))))))))))))) (q (.hv [] [] [] none (.st 64)
 (c2 (.cst (.pointer (some ⟨3,0,none⟩))) (.node (.build [.int .u8 0,.int .u8 0,.int .u8 0,.int .u8 0,.int .u8 0,.int .u8 0,.int .u8 0,.int .u8 0,.int
 .u8 0,.int .u8 0,.int .u8 0,.int .u8 0,.int .u8 0,.int .u8 0,.int .u8 0,.int .u8 0,.int .u8 0,.int .u8 0,.int .u8 0,.int .u8 0,.int .u8 0,.int
 .u8 0,.int .u8 0,.int .u8 0,.int .u8 0,.int .u8 0,.int .u8 0,.int .u8 0,.int .u8 0,.int .u8 0,.int .u8 0,.int .u8 0,.int .u8 0,.int .u8 0,.int
 .u8 0,.int .u8 0,.int .u8 0,.int .u8 0,.int .u8 0,.int .u8 0,.int .u8 0,.int .u8 0,.int .u8 0,.int .u8 0,.int .u8 0,.int .u8 0,.int .u8 0,.int
 .u8 0,.int .u8 0,.int .u8 0,.int .u8 0,.int .u8 0,.int .u8 0,.int .u8 0,.int .u8 0,.int .u8 0,.int .u8 0,.int .u8 0,.int .u8 0,.int .u8 0,.int
 .u8 0,.int .u8 0,.int .u8 0,.int .u8 0] [(0,1),(1,1),(2,1),(3,1),(4,1),(5,1),(6,1),(7,1),(8,1),(9,1),(10,1),(11,1),(12,1),(13,
 1),(14,1),(15,1),(16,1),(17,1),(18,1),(19,1),(20,1),(21,1),(22,1),(23,1),(24,1),(25,1),(26,1),(27,1),(28,1),(29,1),(30,1),
 (31,1),(32,1),(33,1),(34,1),(35,1),(36,1),(37,1),(38,1),(39,1),(40,1),(41,1),(42,1),(43,1),(44,1),(45,1),(46,1),(47,1),(48,
 1),(49,1),(50,1),(51,1),(52,1),(53,1),(54,1),(55,1),(56,1),(57,1),(58,1),(59,1),(60,1),(61,1),(62,1),(63,1)]) (c (.cst (.int .u8
 0)) (c (.cst (.int .u8 1)) (c (.cst (.int .u8 56)) (c (.cst (.int .u8 2)) (c (.cst (.int .u8 57)) (c (.cst (.int .u8 49)) (c (.cst (.int .u8 28)) (c (.cst
 (.int .u8 3)) (c (.cst (.int .u8 61)) (c (.cst (.int .u8 58)) (c (.cst (.int .u8 42)) (c (.cst (.int .u8 50)) (c (.cst (.int .u8 38)) (c (.cst (.int .u8 29))
 (c (.cst (.int .u8 17)) (c (.cst (.int .u8 4)) (c (.cst (.int .u8 62)) (c (.cst (.int .u8 47)) (c (.cst (.int .u8 59)) (c (.cst (.int .u8 36)) (c (.cst (.int
 .u8 45)) (c (.cst (.int .u8 43)) (c (.cst (.int .u8 51)) (c (.cst (.int .u8 22)) (c (.cst (.int .u8 53)) (c (.cst (.int .u8 39)) (c (.cst (.int .u8 33)) (c
 (.cst (.int .u8 30)) (c (.cst (.int .u8 24)) (c (.cst (.int .u8 18)) (c (.cst (.int .u8 12)) (c (.cst (.int .u8 5)) (c (.cst (.int .u8 63)) (c (.cst (.int .u8
 55)) (c (.cst (.int .u8 48)) (c (.cst (.int .u8 27)) (c (.cst (.int .u8 60)) (c (.cst (.int .u8 41)) (c (.cst (.int .u8 37)) (c (.cst (.int .u8 16)) (c (.cst
 (.int .u8 46)) (c (.cst (.int .u8 35)) (c (.cst (.int .u8 44)) (c (.cst (.int .u8 21)) (c (.cst (.int .u8 52)) (c (.cst (.int .u8 32)) (c (.cst (.int .u8 23))
 (c (.cst (.int .u8 11)) (c (.cst (.int .u8 54)) (c (.cst (.int .u8 26)) (c (.cst (.int .u8 40)) (c (.cst (.int .u8 15)) (c (.cst (.int .u8 34)) (c (.cst (.int
 .u8 20)) (c (.cst (.int .u8 31)) (c (.cst (.int .u8 10)) (c (.cst (.int .u8 25)) (c (.cst (.int .u8 14)) (c (.cst (.int .u8 19)) (c (.cst (.int .u8 9)) (c
 (.cst (.int .u8 13)) (c3 (.cst (.int .u8 8)) (.cst (.int .u8 7)) (.cst (.int .u8 6))))))))))))))))))))))))))))))))))))))))))))))))))))))))))))))))))) (.hv []
 [] [] none (.st 20) (c2 (.cst (.pointer (some ⟨0,0,none⟩))) (.node (.build [.int .u64 0,.int .u64 0,.int .u64 0,.int .u64 0,.int .u64 0,.int .u64 0,
 .int .u64 0,.int .u64 0,.int .u64 0,.int .u64 0,.int .u64 0,.int .u64 0,.int .u64 0,.int .u64 0,.int .u64 0,.int .u64 0,.int .u64 0,.int .u64 0,
 .int .u64 0,.int .u64 0] [(0,1),(1,1),(2,1),(3,1),(4,1),(5,1),(6,1),(7,1),(8,1),(9,1),(10,1),(11,1),(12,1),(13,1),(14,1),(15,
 1),(16,1),(17,1),(18,1),(19,1)]) (c (.cst (.int .u64 1)) (c (.cst (.int .u64 10)) (c (.cst (.int .u64 100)) (c (.cst (.int .u64 1000)) (c (.cst (.int
 .u64 10000)) (c (.cst (.int .u64 100000)) (c (.cst (.int .u64 1000000)) (c (.cst (.int .u64 10000000)) (c (.cst (.int .u64 100000000)) (c (.cst (.int .u64
 1000000000)) (c (.cst (.int .u64 10000000000)) (c (.cst (.int .u64 100000000000)) (c (.cst (.int .u64 1000000000000)) (c (.cst (.int .u64 10000000000000)) (c
 (.cst (.int .u64 100000000000000)) (c (.cst (.int .u64 1000000000000000)) (c (.cst (.int .u64 10000000000000000)) (c3 (.cst (.int .u64 100000000000000000))
 (.cst (.int .u64 1000000000000000000)) (.cst (.int .u64 10000000000000000000))))))))))))))))))))))))
def Bi:CF:=⟨0,0,[],Fh,.plain⟩
def GP:List Nat:=[]
end
theorem is2:aB Tryd.prog tr2 2=some cf2:=by kernel_rfl
theorem is3:aB Tryd.prog tr3 3=some cf3:=by kernel_rfl
theorem is4:aB Tryd.prog tr4 4=some cf4:=by kernel_rfl
theorem is5:aB Tryd.prog tr5 5=some cf5:=by kernel_rfl
theorem is6:aB Tryd.prog tr6 6=some cf6:=by kernel_rfl
theorem is7:aB Tryd.prog tr7 7=some cf7:=by kernel_rfl
theorem is8:aB Tryd.prog tr8 8=some cf8:=by kernel_rfl
theorem is9:aB Tryd.prog tr9 9=some cf9:=by kernel_rfl
theorem JK:aB Tryd.prog KM 10=some G5:=by kernel_rfl
theorem Kv:aB Tryd.prog IN 11=some Fg:=by kernel_rfl
theorem KA:aB Tryd.prog LS 12=some y7:=by kernel_rfl
theorem KO:aB Tryd.prog Kj 13=some zL:=by kernel_rfl
theorem Jq:aB Tryd.prog Jr 14=some xZ:=by kernel_rfl
theorem L6:aB Tryd.prog HV 15=some yW:=by kernel_rfl
theorem KH:aB Tryd.prog Hw 16=some Fa:=by kernel_rfl
theorem LU:aB Tryd.prog Kx 17=some yi:=by kernel_rfl
theorem Jy:aB Tryd.prog K9 18=some cf18:=by kernel_rfl
theorem Is:aB Tryd.prog Ks 19=some GQ:=by kernel_rfl
theorem I4:aB Tryd.prog KI 20=some x9:=by kernel_rfl
theorem L7:aB Tryd.prog Ki 21=some y5:=by kernel_rfl
theorem Ll:aB Tryd.prog Jo 22=some ye:=by kernel_rfl
theorem L0:aB Tryd.prog HF 23=some yK:=by kernel_rfl
theorem Lb:aB Tryd.prog JA 24=some zm:=by kernel_rfl
theorem IA:aB Tryd.prog HH 25=some xS:=by kernel_rfl
theorem HZ:aB Tryd.prog Ix 26=some zh:=by kernel_rfl
theorem Hv:aB Tryd.prog J0 27=some Gy:=by kernel_rfl
theorem Jd:aB Tryd.prog Jv 28=some GL:=by kernel_rfl
theorem LD:aB Tryd.prog LJ 29=some vP:=by kernel_rfl
theorem Ho:aB Tryd.prog Ka 30=some rQ:=by kernel_rfl
theorem IK:aB Tryd.prog Il 31=some Fl:=by kernel_rfl
theorem JT:aB Tryd.prog Ig 32=some Fo:=by kernel_rfl
theorem Jf:aB Tryd.prog KF 33=some Gw:=by kernel_rfl
theorem Hl:aB Tryd.prog Kt 34=some AE:=by kernel_rfl
theorem Lg:aB Tryd.prog Jg 35=some xL:=by kernel_rfl
theorem IZ:aB Tryd.prog HJ 36=some ya:=by kernel_rfl
theorem Jj:aB Tryd.prog Lr 37=some zN:=by kernel_rfl
theorem Kb:aB Tryd.prog He 38=some zO:=by kernel_rfl
theorem JQ:aB Tryd.prog HE 39=some zH:=by kernel_rfl
theorem Jn:aB Tryd.prog HY 40=some yh:=by kernel_rfl
theorem JH:aB Tryd.prog IB 41=some zU:=by kernel_rfl
theorem If:aB Tryd.prog KD 42=some zP:=by kernel_rfl
theorem Io:aB Tryd.prog Ha 43=some yj:=by kernel_rfl
theorem JS:aB Tryd.prog IP 44=some xP:=by kernel_rfl
theorem Lp:aB Tryd.prog FW 45=some xw:=by kernel_rfl
theorem JX:aB Tryd.prog Ir 46=some wQ:=by kernel_rfl
theorem Jz:aB Tryd.prog Js 47=some zu:=by kernel_rfl
theorem Jx:aB Tryd.prog Hd 48=some tD:=by kernel_rfl
theorem I8:aB Tryd.prog JE 49=some x6:=by kernel_rfl
theorem Iu:aB Tryd.prog IY 50=some GW:=by kernel_rfl
theorem Li:aB Tryd.prog J8 51=some yq:=by kernel_rfl
theorem Lo:aB Tryd.prog Jc 52=some xQ:=by kernel_rfl
theorem Lh:aB Tryd.prog Ht 53=some xI:=by kernel_rfl
theorem Kf:aB Tryd.prog IM 54=some zW:=by kernel_rfl
theorem Lk:aB Tryd.prog KT 55=some yf:=by kernel_rfl
theorem LQ:aB Tryd.prog Lv 56=some xJ:=by kernel_rfl
theorem Ky:aB Tryd.prog LX 57=some xu:=by kernel_rfl
theorem J7:aB Tryd.prog Lj 58=some zs:=by kernel_rfl
theorem LY:aB Tryd.prog IH 59=some xB:=by kernel_rfl
theorem Ip:aB Tryd.prog I2 60=some yN:=by kernel_rfl
theorem Ja:aB Tryd.prog J5 61=some zR:=by kernel_rfl
theorem I5:aB Tryd.prog Lt 62=some vU:=by kernel_rfl
theorem Iq:aB Tryd.prog JM 63=some GV:=by kernel_rfl
theorem Kc:aB Tryd.prog KW 64=some GF:=by kernel_rfl
theorem I6:aB Tryd.prog KG 65=some Gk:=by kernel_rfl
theorem Im:aB Tryd.prog JF 66=some Gf:=by kernel_rfl
theorem IX:aB Tryd.prog II 68=some yV:=by kernel_rfl
theorem LZ:aB Tryd.prog LV 69=some yH:=by kernel_rfl
theorem Hj:aB Tryd.prog LC 70=some zy:=by kernel_rfl
theorem LI:aB Tryd.prog Kr 71=some yt:=by kernel_rfl
theorem Ld:aB Tryd.prog Km 72=some yr:=by kernel_rfl
theorem Ke:aB Tryd.prog Je 73=some yk:=by kernel_rfl
theorem LF:aB Tryd.prog Kd 74=some y8:=by kernel_rfl
theorem LN:aB Tryd.prog JI 75=some wj:=by kernel_rfl
theorem L8:aB Tryd.prog HQ 76=some yR:=by kernel_rfl
theorem Jh:aB Tryd.prog Jt 77=some xX:=by kernel_rfl
theorem Lc:aB Tryd.prog Ie 78=some yY:=by kernel_rfl
theorem KX:aB Tryd.prog JU 79=some w9:=by kernel_rfl
theorem I0:aB Tryd.prog Hb 81=some Fu:=by kernel_rfl
theorem HD:aB Tryd.prog Ku 82=some FO:=by kernel_rfl
theorem Jp:aB Tryd.prog Lm 83=some GC:=by kernel_rfl
theorem LL:aB Tryd.prog IQ 85=some Gx:=by kernel_rfl
theorem ID:aB Tryd.prog LM 86=some zS:=by kernel_rfl
theorem KJ:aB Tryd.prog LH 87=some xk:=by kernel_rfl
theorem JJ:aB Tryd.prog KP 88=some yd:=by kernel_rfl
theorem Ko:aB Tryd.prog J4 89=some zG:=by kernel_rfl
theorem K0:aB Tryd.prog Iz 90=some zE:=by kernel_rfl
theorem J2:aB Tryd.prog J6 91=some yX:=by kernel_rfl
theorem Hy:aB Tryd.prog J9 92=some zT:=by kernel_rfl
theorem JN:aB Tryd.prog Jw 93=some xY:=by kernel_rfl
theorem Hu:aB Tryd.prog IJ 95=some Gj:=by kernel_rfl
theorem JV:aB Tryd.prog KR 96=some Gq:=by kernel_rfl
theorem Jm:aB Tryd.prog JC 97=some Fy:=by kernel_rfl
theorem Jl:aB Tryd.prog Lu 99=some Gr:=by kernel_rfl
theorem GM:aB Tryd.prog Fj 100=some Bl:=by kernel_rfl
theorem HA:aB Tryd.prog Gc 101=some CH:=by kernel_rfl
theorem Fm:aB Tryd.prog FN 102=some Bs:=by kernel_rfl
theorem F9:aB Tryd.prog FC 104=some By:=by kernel_rfl
theorem Fk:aB Tryd.prog Gv 105=some CC:=by kernel_rfl
theorem FU:aB Tryd.prog FK 106=some Bv:=by kernel_rfl
theorem GH:aB Tryd.prog FP 107=some CD:=by kernel_rfl
theorem Gm:aB Tryd.prog FX 108=some Bw:=by kernel_rfl
theorem GZ:aB Tryd.prog FI 109=some CE:=by kernel_rfl
theorem Fb:aB Tryd.prog GS 110=some Bp:=by kernel_rfl
theorem Fw:aB Tryd.prog GP 133=some Bi:=by kernel_rfl
def DJ:FuncId→Option CF
 | 2=>some cf2
 | 3=>some cf3
 | 4=>some cf4
 | 5=>some cf5
 | 6=>some cf6
 | 7=>some cf7
 | 8=>some cf8
 | 9=>some cf9
 | 10=>some G5
 | 11=>some Fg
 | 12=>some y7
 | 13=>some zL
 | 14=>some xZ
 | 15=>some yW
 | _=>none
theorem tH(f:FuncId)(cf:CF)(h:DJ f=some cf):∃t,aB Tryd.prog t f=some cf:=by
 unfold DJ at h;split at h
 ·cases h;exact⟨_,is2⟩
 ·cases h;exact⟨_,is3⟩
 ·cases h;exact⟨_,is4⟩
 ·cases h;exact⟨_,is5⟩
 ·cases h;exact⟨_,is6⟩
 ·cases h;exact⟨_,is7⟩
 ·cases h;exact⟨_,is8⟩
 ·cases h;exact⟨_,is9⟩
 ·cases h;exact⟨_,JK⟩
 ·cases h;exact⟨_,Kv⟩
 ·cases h;exact⟨_,KA⟩
 ·cases h;exact⟨_,KO⟩
 ·cases h;exact⟨_,Jq⟩
 ·cases h;exact⟨_,L6⟩
 ·simp at h
def Cz:FuncId→Option CF
 | 16=>some Fa
 | 17=>some yi
 | 18=>some cf18
 | 19=>some GQ
 | 20=>some x9
 | 21=>some y5
 | 22=>some ye
 | 23=>some yK
 | 24=>some zm
 | 25=>some xS
 | 26=>some zh
 | 27=>some Gy
 | 28=>some GL
 | 29=>some vP
 | 30=>some rQ
 | 31=>some Fl
 | _=>none
theorem tL(f:FuncId)(cf:CF)(h:Cz f=some cf):∃t,aB Tryd.prog t f=some cf:=by
 unfold Cz at h;split at h
 ·cases h;exact⟨_,KH⟩
 ·cases h;exact⟨_,LU⟩
 ·cases h;exact⟨_,Jy⟩
 ·cases h;exact⟨_,Is⟩
 ·cases h;exact⟨_,I4⟩
 ·cases h;exact⟨_,L7⟩
 ·cases h;exact⟨_,Ll⟩
 ·cases h;exact⟨_,L0⟩
 ·cases h;exact⟨_,Lb⟩
 ·cases h;exact⟨_,IA⟩
 ·cases h;exact⟨_,HZ⟩
 ·cases h;exact⟨_,Hv⟩
 ·cases h;exact⟨_,Jd⟩
 ·cases h;exact⟨_,LD⟩
 ·cases h;exact⟨_,Ho⟩
 ·cases h;exact⟨_,IK⟩
 ·simp at h
def D1:FuncId→Option CF
 | 32=>some Fo
 | 33=>some Gw
 | 34=>some AE
 | 35=>some xL
 | 36=>some ya
 | 37=>some zN
 | 38=>some zO
 | 39=>some zH
 | 40=>some yh
 | 41=>some zU
 | 42=>some zP
 | 43=>some yj
 | 44=>some xP
 | 46=>some wQ
 | 47=>some zu
 | _=>none
theorem tg(f:FuncId)(cf:CF)(h:D1 f=some cf):∃t,aB Tryd.prog t f=some cf:=by
 unfold D1 at h;split at h
 ·cases h;exact⟨_,JT⟩
 ·cases h;exact⟨_,Jf⟩
 ·cases h;exact⟨_,Hl⟩
 ·cases h;exact⟨_,Lg⟩
 ·cases h;exact⟨_,IZ⟩
 ·cases h;exact⟨_,Jj⟩
 ·cases h;exact⟨_,Kb⟩
 ·cases h;exact⟨_,JQ⟩
 ·cases h;exact⟨_,Jn⟩
 ·cases h;exact⟨_,JH⟩
 ·cases h;exact⟨_,If⟩
 ·cases h;exact⟨_,Io⟩
 ·cases h;exact⟨_,JS⟩
 ·cases h;exact⟨_,JX⟩
 ·cases h;exact⟨_,Jz⟩
 ·simp at h
def Db:FuncId→Option CF
 | 48=>some tD
 | 49=>some x6
 | 50=>some GW
 | 51=>some yq
 | 52=>some xQ
 | 53=>some xI
 | 54=>some zW
 | 55=>some yf
 | 56=>some xJ
 | 57=>some xu
 | 58=>some zs
 | 59=>some xB
 | 60=>some yN
 | 61=>some zR
 | 62=>some vU
 | 63=>some GV
 | _=>none
theorem tp(f:FuncId)(cf:CF)(h:Db f=some cf):∃t,aB Tryd.prog t f=some cf:=by
 unfold Db at h;split at h
 ·cases h;exact⟨_,Jx⟩
 ·cases h;exact⟨_,I8⟩
 ·cases h;exact⟨_,Iu⟩
 ·cases h;exact⟨_,Li⟩
 ·cases h;exact⟨_,Lo⟩
 ·cases h;exact⟨_,Lh⟩
 ·cases h;exact⟨_,Kf⟩
 ·cases h;exact⟨_,Lk⟩
 ·cases h;exact⟨_,LQ⟩
 ·cases h;exact⟨_,Ky⟩
 ·cases h;exact⟨_,J7⟩
 ·cases h;exact⟨_,LY⟩
 ·cases h;exact⟨_,Ip⟩
 ·cases h;exact⟨_,Ja⟩
 ·cases h;exact⟨_,I5⟩
 ·cases h;exact⟨_,Iq⟩
 ·simp at h
def DY:FuncId→Option CF
 | 64=>some GF
 | 65=>some Gk
 | 66=>some Gf
 | 68=>some yV
 | 69=>some yH
 | 70=>some zy
 | 71=>some yt
 | 72=>some yr
 | 73=>some yk
 | 74=>some y8
 | 75=>some wj
 | 76=>some yR
 | 77=>some xX
 | 78=>some yY
 | 79=>some w9
 | _=>none
theorem tX(f:FuncId)(cf:CF)(h:DY f=some cf):∃t,aB Tryd.prog t f=some cf:=by
 unfold DY at h;split at h
 ·cases h;exact⟨_,Kc⟩
 ·cases h;exact⟨_,I6⟩
 ·cases h;exact⟨_,Im⟩
 ·cases h;exact⟨_,IX⟩
 ·cases h;exact⟨_,LZ⟩
 ·cases h;exact⟨_,Hj⟩
 ·cases h;exact⟨_,LI⟩
 ·cases h;exact⟨_,Ld⟩
 ·cases h;exact⟨_,Ke⟩
 ·cases h;exact⟨_,LF⟩
 ·cases h;exact⟨_,LN⟩
 ·cases h;exact⟨_,L8⟩
 ·cases h;exact⟨_,Jh⟩
 ·cases h;exact⟨_,Lc⟩
 ·cases h;exact⟨_,KX⟩
 ·simp at h
def Cy:FuncId→Option CF
 | 81=>some Fu
 | 82=>some FO
 | 83=>some GC
 | 85=>some Gx
 | 86=>some zS
 | 87=>some xk
 | 88=>some yd
 | 89=>some zG
 | 90=>some zE
 | 91=>some yX
 | 92=>some zT
 | 93=>some xY
 | 95=>some Gj
 | _=>none
theorem tT(f:FuncId)(cf:CF)(h:Cy f=some cf):∃t,aB Tryd.prog t f=some cf:=by
 unfold Cy at h;split at h
 ·cases h;exact⟨_,I0⟩
 ·cases h;exact⟨_,HD⟩
 ·cases h;exact⟨_,Jp⟩
 ·cases h;exact⟨_,LL⟩
 ·cases h;exact⟨_,ID⟩
 ·cases h;exact⟨_,KJ⟩
 ·cases h;exact⟨_,JJ⟩
 ·cases h;exact⟨_,Ko⟩
 ·cases h;exact⟨_,K0⟩
 ·cases h;exact⟨_,J2⟩
 ·cases h;exact⟨_,Hy⟩
 ·cases h;exact⟨_,JN⟩
 ·cases h;exact⟨_,Hu⟩
 ·simp at h
def EL:FuncId→Option CF
 | 96=>some Gq
 | 97=>some Fy
 | 99=>some Gr
 | 100=>some Bl
 | 101=>some CH
 | 102=>some Bs
 | 104=>some By
 | 105=>some CC
 | 106=>some Bv
 | 107=>some CD
 | 108=>some Bw
 | 109=>some CE
 | 110=>some Bp
 | _=>none
theorem tw(f:FuncId)(cf:CF)(h:EL f=some cf):∃t,aB Tryd.prog t f=some cf:=by
 unfold EL at h;split at h
 ·cases h;exact⟨_,JV⟩
 ·cases h;exact⟨_,Jm⟩
 ·cases h;exact⟨_,Jl⟩
 ·cases h;exact⟨_,GM⟩
 ·cases h;exact⟨_,HA⟩
 ·cases h;exact⟨_,Fm⟩
 ·cases h;exact⟨_,F9⟩
 ·cases h;exact⟨_,Fk⟩
 ·cases h;exact⟨_,FU⟩
 ·cases h;exact⟨_,GH⟩
 ·cases h;exact⟨_,Gm⟩
 ·cases h;exact⟨_,GZ⟩
 ·cases h;exact⟨_,Fb⟩
 ·simp at h
def EK:FuncId→Option CF
 | 133=>some Bi
 | _=>none
theorem td(f:FuncId)(cf:CF)(h:EK f=some cf):∃t,aB Tryd.prog t f=some cf:=by
 unfold EK at h;split at h
 ·cases h;exact⟨_,Fw⟩
 ·simp at h
def cp(f:FuncId):Option CF:=match f/16 with
 | 0=>DJ f
 | 1=>Cz f
 | 2=>D1 f
 | 3=>Db f
 | 4=>DY f
 | 5=>Cy f
 | 6=>EL f
 | 8=>EK f
 | _=>none
theorem l8:iB Tryd.prog cp:=by
 intro f cf h;unfold cp at h;split at h
 ·exact .inl (tH f cf h)
 ·exact .inl (tL f cf h)
 ·exact .inl (tg f cf h)
 ·exact .inl (tp f cf h)
 ·exact .inl (tX f cf h)
 ·exact .inl (tT f cf h)
 ·exact .inl (tw f cf h)
 ·exact .inl (td f cf h)
 ·simp at h
theorem mixed:Tryd.prog.follows .mixedOrders=true:=by kernel_rfl
theorem FJ(base n:Nat):RunOK Tryd.prog base Tryd.prog.globals.size (run cp n):=sound mixed l8 base n
theorem st2{lo:Nat}{H:Heap}{R:Value→Heap→Prop}(h:wpS cp lo bd2 (aS cf2 R) [] H):Ev cp lo 2 [] H R:=aI (cf:=cf2) rfl rfl rfl h
theorem LA{lo:Nat}{H:Heap}{R:Value→Heap→Prop}{a0:Value}(h:wpS cp lo Ck (aS zL R) [a0,undef,undef,undef,undef,undef,undef,undef,undef,undef,undef] H):Ev cp lo 13 [a0] H R:=aI (cf:=zL) rfl rfl rfl h
theorem Lq{lo:Nat}{H:Heap}{R:Value→Heap→Prop}{a0:Value}(h:wpS cp lo Ez (aS xZ R) [a0,undef,undef,undef,undef,undef,undef,undef,undef] H):Ev cp lo 14 [a0] H R:=aI (cf:=xZ) rfl rfl rfl h
theorem LP{lo:Nat}{H:Heap}{R:Value→Heap→Prop}{a0 a1:Value}(h:wpS cp lo D6 (aS yi R) [a0,a1,undef,undef] H):Ev cp lo 17 [a0,a1] H R:=aI (cf:=yi) rfl rfl rfl h
theorem HM{lo:Nat}{H:Heap}{R:Value→Heap→Prop}{a0:Value}(h:wpS cp lo EE (aS x9 R) [a0,undef,undef,undef,undef,undef,undef,undef,undef,undef,undef,undef,undef,undef,undef,undef,undef] H):Ev cp lo 20 [a0] H R:=aI (cf:=x9) rfl rfl rfl h
theorem Hz{lo:Nat}{H:Heap}{R:Value→Heap→Prop}{a0:Value}(h:wpS cp lo C8 (aS y5 R) [a0,undef,undef,undef,undef,undef,undef,undef,undef,undef,undef,undef,undef,undef,undef,undef,undef,undef,undef,undef,undef,undef,undef,undef,undef,undef,undef,undef,undef,undef] H):Ev cp lo 21 [a0] H R:=aI (cf:=y5) rfl rfl rfl h
theorem HN{lo:Nat}{H:Heap}{R:Value→Heap→Prop}{a0:Value}(h:wpS cp lo EM (aS ye R) [a0,undef,undef,undef,undef,undef] H):Ev cp lo 22 [a0] H R:=aI (cf:=ye) rfl rfl rfl h
theorem LG{lo:Nat}{H:Heap}{R:Value→Heap→Prop}{a0:Value}(h:wpS cp lo EC (aS zm R) [a0,undef,undef,undef,undef,undef,undef,undef] H):Ev cp lo 24 [a0] H R:=aI (cf:=zm) rfl rfl rfl h
theorem LR{lo:Nat}{H:Heap}{R:Value→Heap→Prop}{a0:Value}(h:wpS cp lo EI (aS xS R) [a0,undef,undef,undef,undef,undef,undef,undef,undef,undef,undef,undef,undef,undef,undef,undef,undef,undef,undef,undef] H):Ev cp lo 25 [a0] H R:=aI (cf:=xS) rfl rfl rfl h
theorem Hg{lo:Nat}{H:Heap}{R:Value→Heap→Prop}{a0:Value}(h:wpS cp lo CV (aS AE R) [a0,undef,undef,undef,undef,undef,undef,undef,undef,undef,undef,undef,undef,undef,undef,undef,undef,undef,undef,undef] H):Ev cp lo 34 [a0] H R:=aI (cf:=AE) rfl rfl rfl h
theorem L2{lo:Nat}{H:Heap}{R:Value→Heap→Prop}{a0 a1:Value}(h:wpS cp lo Em (aS xL R) [a0,a1,undef,undef,undef] H):Ev cp lo 35 [a0,a1] H R:=aI (cf:=xL) rfl rfl rfl h
theorem It{lo:Nat}{H:Heap}{R:Value→Heap→Prop}{a0 a1 a2:Value}(h:wpS cp lo E5 (aS ya R) [a0,a1,a2,undef,undef,undef,undef,undef,undef,undef,undef,undef,undef,undef,undef,undef,undef,undef,undef,undef,undef,undef,undef,undef] H):Ev cp lo 36 [a0,a1,a2] H R:=aI (cf:=ya) rfl rfl rfl h
theorem IE{lo:Nat}{H:Heap}{R:Value→Heap→Prop}(h:wpS cp lo Ek (aS zN R) [undef,undef,undef,undef,undef,undef,undef,undef,undef,undef,undef,undef,undef,undef,undef,undef] H):Ev cp lo 37 [] H R:=aI (cf:=zN) rfl rfl rfl h
theorem HI{lo:Nat}{H:Heap}{R:Value→Heap→Prop}{a0 a1 a2:Value}(h:wpS cp lo E2 (aS zO R) [a0,a1,a2,undef,undef,undef,undef,undef,undef,undef,undef,undef,undef,undef,undef,undef,undef,undef,undef,undef,undef,undef,undef,undef] H):Ev cp lo 38 [a0,a1,a2] H R:=aI (cf:=zO) rfl rfl rfl h
theorem KZ{lo:Nat}{H:Heap}{R:Value→Heap→Prop}{a0 a1 a2 a3 a4:Value}(h:wpS cp lo C5 (aS zH R) [a0,a1,a2,a3,a4,undef,undef,undef,undef,undef,undef,undef,undef,undef,undef,undef,undef,undef,undef,undef,undef,undef] H):Ev cp lo 39 [a0,a1,a2,a3,a4] H R:=aI (cf:=zH) rfl rfl rfl h
theorem IW{lo:Nat}{H:Heap}{R:Value→Heap→Prop}{a0 a1:Value}(h:wpS cp lo ES (aS yh R) [a0,a1,undef,undef,undef,undef] H):Ev cp lo 40 [a0,a1] H R:=aI (cf:=yh) rfl rfl rfl h
theorem L5{lo:Nat}{H:Heap}{R:Value→Heap→Prop}{a0 a1:Value}(h:wpS cp lo Cm (aS zU R) [a0,a1,undef,undef] H):Ev cp lo 41 [a0,a1] H R:=aI (cf:=zU) rfl rfl rfl h
theorem L9{lo:Nat}{H:Heap}{R:Value→Heap→Prop}{a0:Value}(h:wpS cp lo Ew (aS zP R) [a0,undef,undef,undef,undef,undef,undef,undef,undef,undef,undef,undef] H):Ev cp lo 42 [a0] H R:=aI (cf:=zP) rfl rfl rfl h
theorem KU{lo:Nat}{H:Heap}{R:Value→Heap→Prop}{a0 a1:Value}(h:wpS cp lo EY (aS yj R) [a0,a1,undef,undef,undef,undef,undef,undef,undef,undef,undef,undef,undef,undef] H):Ev cp lo 43 [a0,a1] H R:=aI (cf:=yj) rfl rfl rfl h
theorem KS{lo:Nat}{H:Heap}{R:Value→Heap→Prop}{a0 a1:Value}(h:wpS cp lo Ee (aS xP R) [a0,a1,undef,undef,undef,undef,undef,undef,undef,undef,undef,undef,undef,undef,undef] H):Ev cp lo 44 [a0,a1] H R:=aI (cf:=xP) rfl rfl rfl h
theorem JP{lo:Nat}{H:Heap}{R:Value→Heap→Prop}{a0 a1 a2:Value}(h:wpS cp lo C7 (aS x6 R) [a0,a1,a2,undef,undef,undef,undef] H):Ev cp lo 49 [a0,a1,a2] H R:=aI (cf:=x6) rfl rfl rfl h
theorem HL{lo:Nat}{H:Heap}{R:Value→Heap→Prop}{a0 a1:Value}(h:wpS cp lo Cj (aS yq R) [a0,a1,undef,undef,undef,undef,undef,undef,undef,undef,undef,undef,undef,undef,undef,undef] H):Ev cp lo 51 [a0,a1] H R:=aI (cf:=yq) rfl rfl rfl h
theorem LW{lo:Nat}{H:Heap}{R:Value→Heap→Prop}{a0 a1:Value}(h:wpS cp lo Dz (aS xQ R) [a0,a1,undef,undef,undef,undef,undef,undef,undef,undef,undef,undef,undef,undef,undef,undef,undef,undef] H):Ev cp lo 52 [a0,a1] H R:=aI (cf:=xQ) rfl rfl rfl h
theorem IT{lo:Nat}{H:Heap}{R:Value→Heap→Prop}{a0 a1 a2:Value}(h:wpS cp lo Dq (aS xI R) [a0,a1,a2,undef,undef,undef,undef,undef,undef,undef,undef,undef,undef,undef,undef,undef,undef,undef,undef,undef,undef,undef,undef,undef,undef,undef,undef,undef,undef,undef,undef,undef,undef,undef] H):Ev cp lo 53 [a0,a1,a2] H R:=aI (cf:=xI) rfl rfl rfl h
theorem Hq{lo:Nat}{H:Heap}{R:Value→Heap→Prop}{a0 a1 a2:Value}(h:wpS cp lo D7 (aS zW R) [a0,a1,a2,undef,undef,undef,undef,undef,undef,undef,undef,undef,undef,undef,undef,undef,undef,undef,undef] H):Ev cp lo 54 [a0,a1,a2] H R:=aI (cf:=zW) rfl rfl rfl h
theorem Kk{lo:Nat}{H:Heap}{R:Value→Heap→Prop}{a0:Value}(h:wpS cp lo EA (aS yf R) [a0,undef,undef,undef,undef,undef,undef,undef,undef,undef,undef,undef,undef,undef,undef,undef] H):Ev cp lo 55 [a0] H R:=aI (cf:=yf) rfl rfl rfl h
theorem LK{lo:Nat}{H:Heap}{R:Value→Heap→Prop}{a0:Value}(h:wpS cp lo Cq (aS xJ R) [a0,undef,undef] H):Ev cp lo 56 [a0] H R:=aI (cf:=xJ) rfl rfl rfl h
theorem Kz{lo:Nat}{H:Heap}{R:Value→Heap→Prop}{a0 a1:Value}(h:wpS cp lo C3 (aS xu R) [a0,a1,undef,undef,undef] H):Ev cp lo 57 [a0,a1] H R:=aI (cf:=xu) rfl rfl rfl h
theorem Lf{lo:Nat}{H:Heap}{R:Value→Heap→Prop}{a0 a1 a2:Value}(h:wpS cp lo DL (aS zs R) [a0,a1,a2,undef,undef,undef,undef,undef,undef,undef,undef,undef,undef,undef,undef,undef,undef,undef] H):Ev cp lo 58 [a0,a1,a2] H R:=aI (cf:=zs) rfl rfl rfl h
theorem L3{lo:Nat}{H:Heap}{R:Value→Heap→Prop}{a0 a1:Value}(h:wpS cp lo CT (aS xB R) [a0,a1,undef] H):Ev cp lo 59 [a0,a1] H R:=aI (cf:=xB) rfl rfl rfl h
theorem KN{lo:Nat}{H:Heap}{R:Value→Heap→Prop}{a0:Value}(h:wpS cp lo Ec (aS yN R) [a0,undef,undef,undef] H):Ev cp lo 60 [a0] H R:=aI (cf:=yN) rfl rfl rfl h
theorem KY{lo:Nat}{H:Heap}{R:Value→Heap→Prop}{a0 a1:Value}(h:wpS cp lo En (aS zR R) [a0,a1,undef,undef,undef,undef,undef,undef,undef] H):Ev cp lo 61 [a0,a1] H R:=aI (cf:=zR) rfl rfl rfl h
theorem KV{lo:Nat}{H:Heap}{R:Value→Heap→Prop}{a0:Value}(h:wpS cp lo Ep (aS vU R) [a0,undef,undef,undef,undef,undef] H):Ev cp lo 62 [a0] H R:=aI (cf:=vU) rfl rfl rfl h
theorem KQ{lo:Nat}{H:Heap}{R:Value→Heap→Prop}{a0 a1:Value}(h:wpS cp lo Ey (aS yV R) [a0,a1,undef,undef,undef,undef,undef,undef,undef,undef,undef,undef,undef,undef,undef,undef,undef,undef] H):Ev cp lo 68 [a0,a1] H R:=aI (cf:=yV) rfl rfl rfl h
theorem J1{lo:Nat}{H:Heap}{R:Value→Heap→Prop}{a0 a1:Value}(h:wpS cp lo C6 (aS zy R) [a0,a1,undef,undef] H):Ev cp lo 70 [a0,a1] H R:=aI (cf:=zy) rfl rfl rfl h
theorem Iv{lo:Nat}{H:Heap}{R:Value→Heap→Prop}{a0 a1 a2:Value}(h:wpS cp lo CN (aS yt R) [a0,a1,a2,undef,undef,undef,undef,undef,undef,undef,undef,undef,undef,undef,undef,undef,undef,undef,undef,undef,undef,undef,undef,undef,undef,undef,undef,undef,undef,undef,undef] H):Ev cp lo 71 [a0,a1,a2] H R:=aI (cf:=yt) rfl rfl rfl h
theorem J3{lo:Nat}{H:Heap}{R:Value→Heap→Prop}{a0 a1 a2:Value}(h:wpS cp lo DH (aS yr R) [a0,a1,a2] H):Ev cp lo 72 [a0,a1,a2] H R:=aI (cf:=yr) rfl rfl rfl h
theorem Ib{lo:Nat}{H:Heap}{R:Value→Heap→Prop}{a0:Value}(h:wpS cp lo EP (aS yk R) [a0,undef,undef] H):Ev cp lo 73 [a0] H R:=aI (cf:=yk) rfl rfl rfl h
theorem Ic{lo:Nat}{H:Heap}{R:Value→Heap→Prop}{a0 a1:Value}(h:wpS cp lo CR (aS y8 R) [a0,a1,undef,undef,undef,undef,undef,undef,undef,undef,undef,undef,undef,undef,undef,undef,undef,undef,undef,undef,undef] H):Ev cp lo 74 [a0,a1] H R:=aI (cf:=y8) rfl rfl rfl h
theorem GO{lo:Nat}{H:Heap}{R:Value→Heap→Prop}{a0 a1 a2:Value}(h:wpS cp lo BU (aS wj R) [a0,a1,a2,undef,undef,undef,undef,undef,undef,undef,undef,undef,undef,undef,undef,undef,undef,undef,undef,undef,undef,undef,undef,undef,undef,undef,undef] H):Ev cp lo 75 [a0,a1,a2] H R:=aI (cf:=wj) rfl rfl rfl h
theorem JZ{lo:Nat}{H:Heap}{R:Value→Heap→Prop}{a0 a1:Value}(h:wpS cp lo CU (aS yR R) [a0,a1,undef] H):Ev cp lo 76 [a0,a1] H R:=aI (cf:=yR) rfl rfl rfl h
theorem Kl{lo:Nat}{H:Heap}{R:Value→Heap→Prop}{a0 a1:Value}(h:wpS cp lo EJ (aS xX R) [a0,a1,undef,undef,undef] H):Ev cp lo 77 [a0,a1] H R:=aI (cf:=xX) rfl rfl rfl h
theorem HW{lo:Nat}{H:Heap}{R:Value→Heap→Prop}{a0:Value}(h:wpS cp lo Cc (aS yY R) [a0,undef] H):Ev cp lo 78 [a0] H R:=aI (cf:=yY) rfl rfl rfl h
theorem FD{lo:Nat}{H:Heap}{R:Value→Heap→Prop}{a0:Value}(h:wpS cp lo B9 (aS w9 R) [a0,undef,undef] H):Ev cp lo 79 [a0] H R:=aI (cf:=w9) rfl rfl rfl h
theorem Kg{lo:Nat}{H:Heap}{R:Value→Heap→Prop}{a0 a1:Value}(h:wpS cp lo Cn (aS zS R) [a0,a1,undef] H):Ev cp lo 86 [a0,a1] H R:=aI (cf:=zS) rfl rfl rfl h
theorem IC{lo:Nat}{H:Heap}{R:Value→Heap→Prop}{a0 a1:Value}(h:wpS cp lo CZ (aS xk R) [a0,a1,undef,undef,undef,undef,undef,undef] H):Ev cp lo 87 [a0,a1] H R:=aI (cf:=xk) rfl rfl rfl h
theorem Ih{lo:Nat}{H:Heap}{R:Value→Heap→Prop}{a0 a1 a2 a3:Value}(h:wpS cp lo CW (aS yd R) [a0,a1,a2,a3,undef,undef,undef,undef,undef,undef,undef,undef,undef,undef,undef] H):Ev cp lo 88 [a0,a1,a2,a3] H R:=aI (cf:=yd) rfl rfl rfl h
theorem LO{lo:Nat}{H:Heap}{R:Value→Heap→Prop}{a0:Value}(h:wpS cp lo ED (aS zG R) [a0,undef] H):Ev cp lo 89 [a0] H R:=aI (cf:=zG) rfl rfl rfl h
theorem JW{lo:Nat}{H:Heap}{R:Value→Heap→Prop}{a0:Value}(h:wpS cp lo Ea (aS zE R) [a0,undef,undef] H):Ev cp lo 90 [a0] H R:=aI (cf:=zE) rfl rfl rfl h
theorem JB{lo:Nat}{H:Heap}{R:Value→Heap→Prop}{a0 a1 a2:Value}(h:wpS cp lo D8 (aS yX R) [a0,a1,a2,undef,undef,undef,undef,undef,undef] H):Ev cp lo 91 [a0,a1,a2] H R:=aI (cf:=yX) rfl rfl rfl h
theorem IL{lo:Nat}{H:Heap}{R:Value→Heap→Prop}{a0 a1 a2:Value}(h:wpS cp lo E4 (aS zT R) [a0,a1,a2,undef] H):Ev cp lo 92 [a0,a1,a2] H R:=aI (cf:=zT) rfl rfl rfl h
theorem KB{lo:Nat}{H:Heap}{R:Value→Heap→Prop}{a0 a1:Value}(h:wpS cp lo Dc (aS xY R) [a0,a1,undef] H):Ev cp lo 93 [a0,a1] H R:=aI (cf:=xY) rfl rfl rfl h
end Go.Proofs.YtgpolmomghejoaaDoor
