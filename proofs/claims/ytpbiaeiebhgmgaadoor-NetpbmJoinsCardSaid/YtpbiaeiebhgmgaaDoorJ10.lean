/- The functions of this seat as the abstract machine has them (printed by a program), and that its compiler makes them of the given program. -/
import Derived.Test.YtpbiaeiebhgmgaaDoorJ8
import Derived.Test.YtpbiaeiebhgmgaaDoorProg
import Derived.KernelRfl
set_option linter.unusedVariables false
set_option linter.unusedSimpArgs false
set_option linter.unusedSectionVars false
namespace Go.Proofs.YtpbiaeiebhgmgaaDoor
open Go.Abs
def lit0:ByteArray:=⟨#[0,1,2,2,3,3,3,3,4,4,4,4,4,4,4,4,5,5,5,5,5,5,5,5,5,5,5,5,5,5,5,5,6,6,6,6,6,6,6,6,6,6,6,6,6,6,6,6,6,6,6,6,6,6,6,6,6,6,6,6,6,6,6,6,7,7,7,7,7,7,7,7,7,7,7,7,7,7,7,7,7,7,7,7,7,7,7,7,7,7,7,7,7,7,7,7,7,7,7,7,7,7,7,7,7,7,7,7,7,7,7,7,7,7,7,7,7,7,7,7,7,7,7,7,7,7,7,7,8,8,8,8,8,8,8,8,8,8,8,8,8,8,8,8,8,8,8,8,8,8,8,8,8,8,8,8,8,8,8,8,8,8,8,8,8,8,8,8,8,8,8,8,8,8,8,8,8,8,8,8,8,8,8,8,8,8,8,8,8,8,8,8,8,8,8,8,8,8,8,8,8,8,8,8,8,8,8,8,8,8,8,8,8,8,8,8,8,8,8,8,8,8,8,8,8,8,8,8,8,8,8,8,8,8,8,8,8,8,8,8,8,8,8,8,8,8,8,8,8,8,8,8,8,8,8,8]⟩
def lit1:ByteArray:=⟨#[48,49,50,51,52,53,54,55,56,57,97,98,99,100,101,102,103,104,105,106,107,108,109,110,111,112,113,114,115,116,117,118,119,120,121,122]⟩
def lit2:ByteArray:=⟨#[48,48,48,49,48,50,48,51,48,52,48,53,48,54,48,55,48,56,48,57,49,48,49,49,49,50,49,51,49,52,49,53,49,54,49,55,49,56,49,57,50,48,50,49,50,50,50,51,50,52,50,53,50,54,50,55,50,56,50,57,51,48,51,49,51,50,51,51,51,52,51,53,51,54,51,55,51,56,51,57,52,48,52,49,52,50,52,51,52,52,52,53,52,54,52,55,52,56,52,57,53,48,53,49,53,50,53,51,53,52,53,53,53,54,53,55,53,56,53,57,54,48,54,49,54,50,54,51,54,52,54,53,54,54,54,55,54,56,54,57,55,48,55,49,55,50,55,51,55,52,55,53,55,54,55,55,55,56,55,57,56,48,56,49,56,50,56,51,56,52,56,53,56,54,56,55,56,56,56,57,57,48,57,49,57,50,57,51,57,52,57,53,57,54,57,55,57,56,57,57]⟩
def lit3:ByteArray:=⟨#[115,116,114,99,111,110,118,58,32,105,108,108,101,103,97,108,32,65,112,112,101,110,100,73,110,116,47,70,111,114,109,97,116,73,110,116,32,98,97,115,101]⟩
namespace K
def x(n:Nat):E:=.var n
def i(n:Int):E:=.cst (.int .i64 n)
def c(a b:E):E:=.cons a b
def c1(a:E):E:=.cons a .nil
def c2(a b:E):E:=.cons a (.cons b .nil)
def c3(a b c:E):E:=.cons a (.cons b (.cons c .nil))
def n1(o:LOp)(a:E):E:=.node o (.cons a .nil)
def n2(o:LOp)(a b:E):E:=.node o (.cons a (.cons b .nil))
def b(o:BinOp)(a b:E):E:=.node (.bin o) (.cons a (.cons b .nil))
def ld(a:E):E:=.node (.ld 1 false) (.cons a .nil)
def fa(n:Nat)(a:E):E:=.node (.fAddr n) (.cons a .nil)
def ix(n:Nat)(a:E):E:=.node (.ext n) (.cons a .nil)
def p(a b c:E):E:=.pick a b c
def h(d:Nat)(o:HOp)(a:E):Stm:=.hv [] [] [] (some d) o a
def cl(d f:Nat)(a:E):Stm:=.hv [] [] [] (some d) (.call false) (.cons (.cst (.func (.func f) #[] #[])) a)
def s(l:List (Nat×E)):Stm:=.sets l []
def q(a b:Stm):Stm:=.seq a b
end K
set_option linter.defProp false in
def kB:=And.intro @K.x.eq_1 (And.intro @K.i.eq_1 (And.intro @K.c.eq_1 (And.intro @K.c1.eq_1 (And.intro @K.c2.eq_1 (And.intro @K.c3.eq_1 (And.intro @K.n1.eq_1 (And.intro @K.n2.eq_1 (And.intro @K.b.eq_1 (And.intro @K.ld.eq_1 (And.intro @K.fa.eq_1 (And.intro @K.ix.eq_1 (And.intro @K.p.eq_1 (And.intro @K.h.eq_1 (And.intro @K.cl.eq_1 (And.intro @K.s.eq_1 @K.q.eq_1)))))))))))))))
section
open K
def bd2:Stm:=
 .hv [] [] [] none (.call false) (c1 (.cst (.func (.func 1) #[] #[])))
def cf2:CF:=⟨0,0,[],bd2,.plain⟩
def tr2:List Nat:=[]
def bd3:Stm:=
 q (q (h 2 .box (c1 (x 0))) (s [(3,.cst (.bool false))])) (q (.cond (b .gtr (n1 .len (ld (fa 2 (x 2)))) (i 2000)) (q (q (cl 8 9 .nil) (s [(3,x 8)])) .ret)
 .skip) (q (q (cl 9 10 (c2 (n1 (.ld 3 true) (x 2)) (x 1))) (s [(5,ix 1 (x 9)),(4,ix 0 (x 9))])) (q (q (cl 10 11 (c2 (n1 (.ld 3 true) (x 2)) (x 1))) (s [(7,
 ix 1 (x 10)),(6,ix 0 (x 10))])) (q (q (.hv [(11,p (b .eql (x 5) (x 7)) (b .eql (n1 .b2s (x 4)) (n1 .b2s (x 6))) (.cst (.bool false)))] [] [(p (b .eql (x 5)
 (x 7)) (b .eql (n1 .b2s (x 4)) (n1 .b2s (x 6))) (.cst (.bool false)),true)] (some 12) (.call false) (c1 (.cst (.func (.func 9) #[] #[])))) (s [(3,p (x 11)
 (x 12) (.cst (.bool false)))])) .ret))))
def cf3:CF:=⟨2,13,[(.var 3)],bd3,.plain⟩
def tr3:List Nat:=[0,1,2,4,5,6,7,8,13,17,23,36,37]
def bd4:Stm:=
 q (q (h 3 .box (c1 (x 0))) (s [(4,.cst (.bool false))])) (q (q (cl 16 12 (c2 (n1 (.ld 3 true) (x 3)) (x 1))) (s [(6,ix 1 (x 16)),(5,ix 0 (x 16))])) (q
 (.cond (p (b .eql (n1 .len (x 5)) (i 0)) (.cst (.bool true)) (b .gtr (n1 .len (x 2)) (i 2000))) (q (q (cl 17 9 .nil) (s [(4,x 17)])) .ret) .skip) (q (q (cl
 18 13 (c1 (x 5))) (q (.hv [(22,ix 3 (x 18)),(21,ix 2 (x 18)),(20,ix 1 (x 18)),(19,ix 0 (x 18))] [] [] (some 7) (.alloc [.int .i64 0,.int .i64 0,
 .slice none 0 0]) .nil) (q (.hv [] [] [] none (.st 3) (c2 (x 7) (x 19))) (s [(10,x 22),(9,x 21),(8,x 20)])))) (q (s [(11,.cst (.slice none 0 0))]) (q (q
 (h 23 (.app 1 [.int .u8 0]) (c2 (x 11) (x 5))) (s [(11,x 23)])) (q (q (h 24 (.app 1 [.int .u8 0]) (c2 (x 11) (x 2))) (s [(11,x 24)])) (q (q (cl 25 13 (c1 (x
 11))) (q (.hv [(29,ix 3 (x 25)),(28,ix 2 (x 25)),(27,ix 1 (x 25)),(26,ix 0 (x 25))] [] [] (some 12) (.alloc [.int .i64 0,.int .i64 0,.slice none 0
 0]) .nil) (q (.hv [] [] [] none (.st 3) (c2 (x 12) (x 26))) (s [(15,x 29),(14,x 28),(13,x 27)])))) (q (q (.hv [(31,p (p (b .eql (x 10) (i 0)) (b .eql (x
 8) (x 6)) (.cst (.bool false))) (x 9) (.cst (.tuple #[]))),(30,p (b .eql (x 10) (i 0)) (b .eql (x 8) (x 6)) (.cst (.bool false)))] [] [(p (b .eql (x 10) (i
 0)) (b .eql (x 8) (x 6)) (.cst (.bool false)),true)] (some 32) (.call false) (c3 (.cst (.func (.func 14) #[] #[])) (x 5) (x 6))) (q (.hv [(33,p (x 30) (b
 .eql (x 31) (x 32)) (.cst (.bool false)))] [] [(p (x 30) (b .eql (x 31) (x 32)) (.cst (.bool false)),true)] (some 34) (.call false) (c3 (.cst (.func (.func
 15) #[] #[])) (n1 (.ld 3 true) (x 7)) (n1 (.ld 3 true) (x 3)))) (q (.hv [(35,p (p (p (p (x 33) (x 34) (.cst (.bool false))) (b .eql (x 15) (i 0)) (.cst
 (.bool false))) (b .eql (x 13) (x 6)) (.cst (.bool false))) (b .eql (x 14) (x 9)) (.cst (.bool false)))] [] [(p (p (p (p (x 33) (x 34) (.cst (.bool false)))
 (b .eql (x 15) (i 0)) (.cst (.bool false))) (b .eql (x 13) (x 6)) (.cst (.bool false))) (b .eql (x 14) (x 9)) (.cst (.bool false)),true)] (some 36) (.call
 false) (c3 (.cst (.func (.func 15) #[] #[])) (n1 (.ld 3 true) (x 12)) (n1 (.ld 3 true) (x 3)))) (q (.hv [(37,p (x 35) (x 36) (.cst (.bool false)))] [] [(p (x
 35) (x 36) (.cst (.bool false)),true)] (some 38) (.call false) (c1 (.cst (.func (.func 9) #[] #[])))) (s [(4,p (x 37) (x 38) (.cst (.bool false)))])))))
 .ret))))))))
def cf4:CF:=⟨3,39,[(.var 4)],bd4,.plain⟩
def tr4:List Nat:=[0,1,2,3,6,7,8,9,10,11,12,13,14,15,16,17,21,32,35,36,37,38,39,42,45,48,49,50,51,52,60,61,64,67,70,86,89,91,92]
def bd5:Stm:=
 q (q (h 3 .box (c1 (x 0))) (s [(4,.cst (.bool false))])) (q (q (cl 9 12 (c2 (n1 (.ld 3 true) (x 3)) (x 1))) (s [(6,ix 1 (x 9)),(5,ix 0 (x 9))])) (q (.cond
 (p (b .eql (n1 .len (x 5)) (i 0)) (.cst (.bool true)) (b .eql (x 6) (i 2))) (q (q (cl 10 9 .nil) (s [(4,x 10)])) .ret) .skip) (q (q (.hv [(11,n1 (.cvt .i64)
 (x 2))] [] [] (some 12) (.call false) (c3 (.cst (.func (.func 14) #[] #[])) (x 5) (x 6))) (s [(7,b .rem (x 11) (x 12))])) (q (s [(8,i 10)]) (q (.cond (b
 .lss (x 7) (i 2)) (s [(8,i 25)]) .skip) (q (q (cl 13 16 (c2 (n1 .b2s (n2 (.sl 1 false true false) (x 5) (x 7))) (x 8))) (q (.hv [(14,x 13)] [] [(x 13,
 true)] (some 15) (.call false) (c1 (.cst (.func (.func 9) #[] #[])))) (s [(4,p (x 14) (x 15) (.cst (.bool false)))]))) .ret))))))
def cf5:CF:=⟨3,16,[(.var 4)],bd5,.plain⟩
def tr5:List Nat:=[0,1,2,3,6,7,8,9,10,14,24,26,29,38,39,40]
def bd6:Stm:=
 q (q (h 3 .box (c1 (x 0))) (s [(4,.cst (.bool false))])) (q (q (cl 14 12 (c2 (n1 (.ld 3 true) (x 3)) (x 1))) (s [(6,ix 1 (x 14)),(5,ix 0 (x 14))])) (q
 (.cond (p (b .lss (n1 .len (x 5)) (i 3)) (.cst (.bool true)) (b .gtr (n1 .len (x 2)) (i 200))) (q (q (cl 15 9 .nil) (s [(4,x 15)])) .ret) .skip) (q (s [(7,
 .cst (.slice none 0 0))]) (q (q (h 16 (.app 1 [.int .u8 0]) (c2 (x 7) (n2 (.sl 1 false true false) (x 5) (i 3)))) (s [(7,x 16)])) (q (q (.hv [(17,x 7)] []
 [] (some 18) (.bSl [.int .u8 0] 1 [0]) (c1 (.cst (.int .u8 35)))) (q (h 19 (.app 1 [.int .u8 0]) (c2 (x 17) (x 18))) (s [(7,x 19)]))) (q (q (s [(8,i 0)])
 (.block 0 (.loop (q (.cond (b .lss (x 8) (n1 .len (x 2))) .skip (.exit 0)) (q (.block 1 (q (s [(9,ld (n2 (.iAddr 1) (x 2) (x 8)))]) (q (.cond (p (b .eql (x
 9) (.cst (.int .u8 10))) (.cst (.bool true)) (b .eql (x 9) (.cst (.int .u8 13)))) (s [(9,.cst (.int .u8 46))]) .skip) (q (.hv [(20,x 7)] [] [] (some 21)
 (.bSl [.int .u8 0] 1 [0]) (c1 (x 9))) (q (h 22 (.app 1 [.int .u8 0]) (c2 (x 20) (x 21))) (s [(7,x 22)])))))) (s [(8,b .add (x 8) (i 1))])))))) (q (q (.hv
 [(23,x 7)] [] [] (some 24) (.bSl [.int .u8 0] 1 [0]) (c1 (.cst (.int .u8 10)))) (q (h 25 (.app 1 [.int .u8 0]) (c2 (x 23) (x 24))) (s [(7,x 25)]))) (q (q (h
 26 (.app 1 [.int .u8 0]) (c2 (x 7) (n2 (.sl 1 true false false) (x 5) (i 3)))) (s [(7,x 26)])) (q (q (cl 27 13 (c1 (x 7))) (q (.hv [(31,ix 3 (x 27)),(30,
 ix 2 (x 27)),(29,ix 1 (x 27)),(28,ix 0 (x 27))] [] [] (some 10) (.alloc [.int .i64 0,.int .i64 0,.slice none 0 0]) .nil) (q (.hv [] [] [] none (.st 3)
 (c2 (x 10) (x 28))) (s [(13,x 31),(12,x 30),(11,x 29)])))) (q (q (.hv [(33,p (p (b .eql (x 13) (i 0)) (b .eql (x 11) (x 6)) (.cst (.bool false))) (x 12)
 (.cst (.tuple #[]))),(32,p (b .eql (x 13) (i 0)) (b .eql (x 11) (x 6)) (.cst (.bool false)))] [] [(p (b .eql (x 13) (i 0)) (b .eql (x 11) (x 6)) (.cst
 (.bool false)),true)] (some 34) (.call false) (c3 (.cst (.func (.func 14) #[] #[])) (x 5) (x 6))) (q (.hv [(35,p (x 32) (b .eql (x 33) (b .add (b .add (x
 34) (n1 .len (x 2))) (i 2))) (.cst (.bool false)))] [] [(p (x 32) (b .eql (x 33) (b .add (b .add (x 34) (n1 .len (x 2))) (i 2))) (.cst (.bool false)),true)]
 (some 36) (.call false) (c3 (.cst (.func (.func 15) #[] #[])) (n1 (.ld 3 true) (x 10)) (n1 (.ld 3 true) (x 3)))) (q (.hv [(37,p (x 35) (x 36) (.cst (.bool
 false)))] [] [(p (x 35) (x 36) (.cst (.bool false)),true)] (some 38) (.call false) (c1 (.cst (.func (.func 9) #[] #[])))) (s [(4,p (x 37) (x 38) (.cst
 (.bool false)))])))) .ret))))))))))
def cf6:CF:=⟨3,39,[(.var 4)],bd6,.plain⟩
def tr6:List Nat:=[0,1,2,3,6,7,8,9,10,11,12,13,14,15,19,30,34,35,36,37,54,56,57,58,59,60,64,67,68,69,70,71,79,80,83,90,93,95,96]
def bd7:Stm:=
 q (s [(1,.cst (.bool false))]) (q (.cond (b .gtr (n1 .len (x 0)) (i 2000)) (q (q (cl 7 9 .nil) (s [(1,x 7)])) .ret) .skip) (q (q (cl 8 17 (c1 (x 0))) (s [(3,
 ix 1 (x 8)),(2,ix 0 (x 8))])) (q (q (cl 9 18 (c1 (x 0))) (s [(5,ix 1 (x 9)),(4,ix 0 (x 9))])) (q (.cond (p (b .neq (x 3) (x 5)) (.cst (.bool true)) (b
 .neq (n1 .len (x 2)) (n1 .len (x 4)))) (q (s [(1,.cst (.bool false))]) .ret) .skip) (q (q (s [(6,i 0)]) (.block 0 (.loop (q (.cond (b .lss (x 6) (n1 .len (x
 2))) .skip (.exit 0)) (q (.block 1 (q (h 10 .callC (c3 (.cst (.func (.func 15) #[] #[])) (n1 (.ld 3 true) (n2 (.iAddr 3) (x 2) (x 6))) (n1 (.ld 3 true) (n2
 (.iAddr 3) (x 4) (x 6))))) (.cond (n1 (.un .not) (x 10)) (q (s [(1,.cst (.bool false))]) .ret) .skip))) (s [(6,b .add (x 6) (i 1))])))))) (q (q (cl 11 9
 .nil) (s [(1,x 11)])) .ret))))))
def cf7:CF:=⟨1,12,[(.var 1)],bd7,.plain⟩
def tr7:List Nat:=[0,2,3,4,5,6,7,11,14,19,46,48]
def bd8:Stm:=
 q (s [(2,.cst (.bool false))]) (q (.cond (b .gtr (n1 .len (x 0)) (i 5)) (q (q (cl 10 9 .nil) (s [(2,x 10)])) .ret) .skip) (q (s [(3,.cst (.slice none 0 0))])
 (q (s [(4,.cst (.slice none 0 0))]) (q (q (s [(5,i 0)]) (.block 0 (.loop (q (.cond (p (b .lss (x 5) (n1 .len (x 0))) (b .lss (x 5) (n1 .len (x 1))) (.cst
 (.bool false))) .skip (.exit 0)) (q (.block 1 (q (q (h 11 .callC (c3 (.cst (.func (.func 12) #[] #[])) (n1 (.ld 3 true) (n2 (.iAddr 3) (x 0) (x 5))) (ld (n2
 (.iAddr 1) (x 1) (x 5))))) (.sets [(6,ix 0 (x 11))] [ix 1 (x 11)])) (.cond (b .gtr (n1 .len (x 6)) (i 0)) (q (q (h 12 (.app 1 [.int .u8 0]) (c2 (x 3) (x 6)))
 (s [(3,x 12)])) (q (.hv [(13,x 4)] [] [] (some 14) (.bSl [.int .i64 0,.int .i64 0,.slice none 0 0] 1 [0]) (c1 (n1 (.ld 3 true) (n2 (.iAddr 3) (x 0) (x
 5))))) (q (h 15 (.app 3 [.int .i64 0,.int .i64 0,.slice none 0 0]) (c2 (x 13) (x 14))) (s [(4,x 15)])))) .skip))) (s [(5,b .add (x 5) (i 1))])))))) (q (q
 (cl 16 17 (c1 (x 3))) (s [(8,ix 1 (x 16)),(7,ix 0 (x 16))])) (q (.cond (b .eql (n1 .len (x 4)) (i 0)) (q (q (.hv [(17,p (b .eql (x 8) (i 25)) (b .eql (n1
 .len (x 7)) (i 0)) (.cst (.bool false)))] [] [(p (b .eql (x 8) (i 25)) (b .eql (n1 .len (x 7)) (i 0)) (.cst (.bool false)),true)] (some 18) (.call false) (c1
 (.cst (.func (.func 9) #[] #[])))) (s [(2,p (x 17) (x 18) (.cst (.bool false)))])) .ret) .skip) (q (.cond (p (b .neq (x 8) (i 0)) (.cst (.bool true)) (b .neq
 (n1 .len (x 7)) (n1 .len (x 4)))) (q (s [(2,.cst (.bool false))]) .ret) .skip) (q (q (s [(9,i 0)]) (.block 2 (.loop (q (.cond (b .lss (x 9) (n1 .len (x 4)))
 .skip (.exit 2)) (q (.block 3 (q (h 19 .callC (c3 (.cst (.func (.func 15) #[] #[])) (n1 (.ld 3 true) (n2 (.iAddr 3) (x 7) (x 9))) (n1 (.ld 3 true) (n2 (.iAddr
 3) (x 4) (x 9))))) (.cond (n1 (.un .not) (x 19)) (q (s [(2,.cst (.bool false))]) .ret) .skip))) (s [(9,b .add (x 9) (i 1))])))))) (q (q (cl 20 9 .nil) (s
 [(2,x 20)])) .ret)))))))))
def cf8:CF:=⟨2,21,[(.var 2)],bd8,.plain⟩
def tr8:List Nat:=[0,1,4,5,6,7,8,10,11,12,16,38,46,47,52,53,56,69,70,95,97]
def bd9:Stm:=
 q (s [(0,.cst (.bool false))]) (q (q (h 11 (.bSl [.int .u8 0] 3 [0,1,2]) (c3 (.cst (.int .u8 0)) (.cst (.int .u8 0)) (.cst (.int .u8 255)))) (q (cl 12 10 (c2
 (.node (.build [.int .i64 0,.int .i64 0,.slice none 0 0] [(0,1),(1,1),(2,1)]) (c3 (i 3) (i 1) (x 11))) (i 1))) (s [(2,ix 1 (x 12)),(1,ix 0 (x
 12))]))) (q (q (h 13 (.bSl [.int .u8 0] 14 [0,1,2,3,4,5,6,7,8,9,10,11,12,13]) (c (.cst (.int .u8 80)) (c (.cst (.int .u8 50)) (c (.cst (.int .u8
 32)) (c (.cst (.int .u8 50)) (c (.cst (.int .u8 32)) (c (.cst (.int .u8 49)) (c (.cst (.int .u8 32)) (c (.cst (.int .u8 49)) (c (.cst (.int .u8 53)) (c (.cst
 (.int .u8 10)) (c (.cst (.int .u8 48)) (c3 (.cst (.int .u8 32)) (.cst (.int .u8 49)) (.cst (.int .u8 53))))))))))))))) (q (h 14 .frz (c1 (x 13))) (q (cl 15 13
 (c1 (x 14))) (q (.hv [(19,ix 3 (x 15)),(18,ix 2 (x 15)),(17,ix 1 (x 15)),(16,ix 0 (x 15))] [] [] (some 3) (.alloc [.int .i64 0,.int .i64 0,.slice
 none 0 0]) .nil) (q (.hv [] [] [] none (.st 3) (c2 (x 3) (x 16))) (s [(6,x 19),(5,x 18),(4,x 17)])))))) (q (q (h 20 (.bSl [.int .u8 0] 9 [0,1,2,3,4,
 5,6,7,8]) (c (.cst (.int .u8 80)) (c (.cst (.int .u8 52)) (c (.cst (.int .u8 10)) (c (.cst (.int .u8 57)) (c (.cst (.int .u8 32)) (c (.cst (.int .u8 49))
 (c3 (.cst (.int .u8 10)) (.cst (.int .u8 255)) (.cst (.int .u8 128)))))))))) (q (h 21 .frz (c1 (x 20))) (q (cl 22 13 (c1 (x 21))) (q (.hv [(26,ix 3 (x 22)),
 (25,ix 2 (x 22)),(24,ix 1 (x 22)),(23,ix 0 (x 22))] [] [] (some 7) (.alloc [.int .i64 0,.int .i64 0,.slice none 0 0]) .nil) (q (.hv [] [] [] none (.st
 3) (c2 (x 7) (x 23))) (s [(10,x 26),(9,x 25),(8,x 24)])))))) (q (.cond (p (p (p (p (p (p (p (b .neq (x 2) (i 0)) (.cst (.bool true)) (b .neq (x 6) (i
 0))) (.cst (.bool true)) (b .neq (x 10) (i 0))) (.cst (.bool true)) (b .neq (n1 .b2s (x 1)) (.cst (.string ⟨ #[80,49,10,51,32,49,10,49,49,48,10]
 ⟩)))) (.cst (.bool true)) (b .neq (x 4) (i 2))) (.cst (.bool true)) (b .neq (x 5) (i 14))) (.cst (.bool true)) (b .neq (x 8) (i 4))) (.cst (.bool true)) (b
 .neq (x 9) (i 9))) (q (s [(0,.cst (.bool false))]) .ret) .skip) (q (q (.hv [(27,n1 (.ld 3 true) (x 3))] [] [] (some 28) (.bSl [.int .u8 0] 2 [0,1]) (c2
 (.cst (.int .u8 0)) (.cst (.int .u8 255)))) (q (cl 29 15 (c2 (x 27) (.node (.build [.int .i64 0,.int .i64 0,.slice none 0 0] [(0,1),(1,1),(2,1)]) (c3
 (i 2) (i 1) (x 28))))) (q (.hv [(31,p (n1 (.un .not) (x 29)) (.cst (.tuple #[])) (n1 (.ld 3 true) (x 7))),(30,n1 (.un .not) (x 29))] [] [(n1 (.un .not) (x
 29),false)] (some 32) (.bSl [.int .u8 0] 9 [0,1,2,3,4,5,6,7,8]) (c (.cst (.int .u8 0)) (c (.cst (.int .u8 0)) (c (.cst (.int .u8 0)) (c (.cst (.int
 .u8 0)) (c (.cst (.int .u8 0)) (c (.cst (.int .u8 0)) (c3 (.cst (.int .u8 0)) (.cst (.int .u8 0)) (.cst (.int .u8 0)))))))))) (q (.hv [] [] [(x 30,false)]
 (some 33) (.call false) (c3 (.cst (.func (.func 15) #[] #[])) (x 31) (.node (.build [.int .i64 0,.int .i64 0,.slice none 0 0] [(0,1),(1,1),(2,1)]) (c3
 (i 9) (i 1) (x 32))))) (.cond (p (x 30) (.cst (.bool true)) (n1 (.un .not) (x 33))) (q (s [(0,.cst (.bool false))]) .ret) .skip))))) (q (q (cl 34 16 (c2
 (.cst (.string ⟨ #[80,49,32,50,32,49,32,49] ⟩)) (i 10))) (q (.hv [(35,x 34)] [] [(x 34,true)] (some 36) (.call false) (c3 (.cst (.func (.func 16) #[]
 #[])) (.cst (.string ⟨ #[80,49,32,50] ⟩)) (i 10))) (q (.hv [(37,p (x 35) (x 36) (.cst (.bool false)))] [] [(p (x 35) (x 36) (.cst (.bool false)),true)]
 (some 38) (.call false) (c3 (.cst (.func (.func 16) #[] #[])) (.cst (.string ⟨ #[80,51,32,49,32,49] ⟩)) (i 25))) (q (.hv [(39,p (x 37) (x 38) (.cst
 (.bool false)))] [] [(p (x 37) (x 38) (.cst (.bool false)),true)] (some 40) (.call false) (c3 (.cst (.func (.func 16) #[] #[])) (.cst (.string ⟨ #[80,49,
 32,48,32,49,32] ⟩)) (i 23))) (q (.hv [(41,p (x 39) (x 40) (.cst (.bool false)))] [] [(p (x 39) (x 40) (.cst (.bool false)),true)] (some 42) (.call
 false) (c3 (.cst (.func (.func 16) #[] #[])) (.cst (.string ⟨ #[80,49,32,50,32,49,32,49,50] ⟩)) (i 9))) (s [(0,p (x 41) (x 42) (.cst (.bool
 false)))])))))) .ret))))))
def cf9:CF:=⟨0,43,[(.var 0)],bd9,.plain⟩
def tr9:List Nat:=[0,1,2,3,4,5,6,7,8,9,10,12,14,18,19,20,21,22,23,24,26,27,28,29,30,31,32,64,65,67,69,70,71,73,76,77,78,80,81,83,84,86,87]
def bd10:Stm:=
 q (q (h 2 .box (c1 (x 0))) (s [(4,i 0),(3,.cst (.slice none 0 0))])) (q (q (.hv [(11,p (b .lss (x 1) (i 0)) (.cst (.bool true)) (b .gtr (x 1) (i 9)))] []
 [(p (b .lss (x 1) (i 0)) (.cst (.bool true)) (b .gtr (x 1) (i 9)),false)] (some 12) (.call false) (c2 (.cst (.func (.func 19) #[] #[])) (n1 (.ld 3 true) (x
 2)))) (.cond (p (x 11) (.cst (.bool true)) (b .neq (x 12) (i 0))) (q (s [(4,i 1),(3,.cst (.slice none 0 0))]) .ret) .skip)) (q (s [(5,n1 (.cvt .u8) (b
 .add (i 48) (x 1)))]) (q (q (cl 13 20 (c1 (x 5))) (q (.hv [(15,ix 1 (x 13)),(14,ix 0 (x 13))] [] [] (some 6) (.alloc [.int .i64 0,.bool false,.bool
 false]) .nil) (q (.hv [] [] [] none (.st 3) (c2 (x 6) (x 14))) (s [(7,x 15)])))) (q (.cond (n1 (.un .not) (x 7)) (q (s [(4,i 1),(3,.cst (.slice none 0
 0))]) .ret) .skip) (q (.cond (n1 (.un .not) (ld (fa 1 (x 6)))) (q (s [(18,i 0),(17,n1 .len (ld (fa 2 (x 2)))),(16,ld (fa 2 (x 2)))]) (.block 0 (.loop (q
 (.cond (b .lss (x 18) (x 17)) .skip (.exit 0)) (q (.block 1 (q (s [(8,ld (n2 (.iAddr 1) (x 16) (x 18)))]) (.cond (p (b .neq (x 8) (.cst (.int .u8 0))) (b
 .neq (x 8) (.cst (.int .u8 255))) (.cst (.bool false))) (q (s [(4,i 3),(3,.cst (.slice none 0 0))]) .ret) .skip))) (s [(18,b .add (x 18) (i 1))]))))))
 .skip) (q (q (h 19 (.bSl [.int .u8 0] 3 [0,1,2]) (c3 (.cst (.int .u8 80)) (x 5) (.cst (.int .u8 10)))) (s [(9,x 19)])) (q (q (cl 20 21 (c3 (x 9) (ld (fa 0
 (x 2))) (i 10))) (s [(9,x 20)])) (q (q (.hv [(21,x 9)] [] [] (some 22) (.bSl [.int .u8 0] 1 [0]) (c1 (.cst (.int .u8 32)))) (q (h 23 (.app 1 [.int .u8 0])
 (c2 (x 21) (x 22))) (s [(9,x 23)]))) (q (q (cl 24 21 (c3 (x 9) (ld (fa 1 (x 2))) (i 10))) (s [(9,x 24)])) (q (q (.hv [(25,x 9)] [] [] (some 26) (.bSl [.int
 .u8 0] 1 [0]) (c1 (.cst (.int .u8 10)))) (q (h 27 (.app 1 [.int .u8 0]) (c2 (x 25) (x 26))) (s [(9,x 27)]))) (q (.cond (ld (fa 1 (x 6))) (q (h 28 (.appS
 [.int .u8 0]) (c2 (x 9) (.cst (.string ⟨ #[50,53,53,10] ⟩)))) (s [(9,x 28)])) .skip) (q (q (s [(30,i 0),(29,ld (fa 1 (x 2)))]) (.block 2 (.loop (q
 (.cond (b .lss (x 30) (x 29)) .skip (.exit 2)) (q (.block 3 (q (s [(10,x 30)]) (q (h 31 .callC (c (.cst (.func (.func 22) #[] #[])) (c3 (x 9) (.node (.sl 1
 true true false) (c3 (ld (fa 2 (x 2))) (b .mul (x 10) (ld (fa 0 (x 2)))) (b .mul (b .add (x 10) (i 1)) (ld (fa 0 (x 2)))))) (n1 (.ld 3 true) (x 6))))) (s [(9,
 x 31)])))) (s [(30,b .add (x 30) (i 1))])))))) (q (s [(4,i 0),(3,x 9)]) .ret)))))))))))))
def cf10:CF:=⟨2,32,[(.var 3),(.var 4)],bd10,.plain⟩
def tr10:List Nat:=[0,1,2,4,5,6,7,8,10,11,12,19,21,29,30,31,38,39,40,52,56,57,58,59,63,64,65,66,70,72,73,90]
def bd11:Stm:=
 q (q (h 2 .box (c1 (x 0))) (s [(4,i 0),(3,.cst (.slice none 0 0))])) (q (q (cl 10 23 (c1 (n1 (.ld 3 true) (x 2)))) (q (.hv [(11,b .neq (x 10) (i 0))] [] [(b
 .neq (x 10) (i 0),false)] (some 12) (.call false) (c2 (.cst (.func (.func 24) #[] #[])) (x 1))) (.cond (p (x 11) (.cst (.bool true)) (n1 (.un .not) (x 12)))
 (q (s [(4,i 1),(3,.cst (.slice none 0 0))]) .ret) .skip))) (q (q (s [(5,i 0)]) (.block 0 (.loop (q (q (.hv [(13,b .lss (x 5) (n1 .len (ld (fa 2 (x
 2)))))] [] [(b .lss (x 5) (n1 .len (ld (fa 2 (x 2)))),true)] (some 14) (.call false) (c2 (.cst (.func (.func 25) #[] #[])) (x 1))) (.cond (p (x 13) (n1 (.un
 .not) (x 14)) (.cst (.bool false))) .skip (.exit 0))) (q (.block 1 (.cond (p (b .neq (ld (n2 (.iAddr 1) (ld (fa 2 (x 2))) (x 5))) (.cst (.int .u8 0))) (b .neq
 (ld (n2 (.iAddr 1) (ld (fa 2 (x 2))) (x 5))) (.cst (.int .u8 255))) (.cst (.bool false))) (q (s [(4,i 3),(3,.cst (.slice none 0 0))]) .ret) .skip)) (s [(5,
 b .add (x 5) (i 1))])))))) (q (q (.hv [(20,ld (fa 1 (x 2))),(17,ld (fa 0 (x 2)))] [] [] (some 15) (.call true) (c2 (.cst (.func (.func 26) #[] #[])) (x
 1))) (q (.hv [(16,b .add (b .add (.cst (.string ⟨ #[80] ⟩)) (x 15)) (.cst (.string ⟨ #[10] ⟩)))] [] [] (some 18) (.call true) (c2 (.cst (.func (.func 26) #[]
 #[])) (x 17))) (q (.hv [(19,b .add (b .add (x 16) (x 18)) (.cst (.string ⟨ #[32] ⟩)))] [] [] (some 21) .callC (c2 (.cst (.func (.func 26) #[] #[])) (x 20)))
 (s [(6,b .add (b .add (x 19) (x 21)) (.cst (.string ⟨ #[10] ⟩)))])))) (q (q (cl 22 25 (c1 (x 1))) (.cond (x 22) (s [(6,b .add (x 6) (.cst (.string ⟨ #[50,
 53,53,10] ⟩)))]) .skip)) (q (q (h 23 .s2b (c1 (x 6))) (s [(7,x 23)])) (q (q (s [(8,i 0)]) (.block 2 (.loop (q (.cond (b .lss (x 8) (ld (fa 1 (x 2))))
 .skip (.exit 2)) (q (.block 3 (q (s [(9,.node (.sl 1 true true false) (c3 (ld (fa 2 (x 2))) (b .mul (x 8) (ld (fa 0 (x 2)))) (b .add (b .mul (x 8) (ld (fa 0
 (x 2)))) (ld (fa 0 (x 2))))))]) (q (cl 24 27 (c1 (x 1))) (.cond (x 24) (q (.hv [(25,x 7)] [] [] (some 26) (.call false) (c3 (.cst (.func (.func 28) #[] #[]))
 (x 9) (x 1))) (q (h 27 (.appS [.int .u8 0]) (c2 (x 25) (x 26))) (s [(7,x 27)]))) (q (cl 28 25 (c1 (x 1))) (.cond (x 28) (q (h 29 (.app 1 [.int .u8 0]) (c2 (x
 7) (x 9))) (s [(7,x 29)])) (q (.hv [(30,x 7)] [] [] (some 31) (.call false) (c2 (.cst (.func (.func 29) #[] #[])) (x 9))) (q (h 32 (.app 1 [.int .u8 0]) (c2
 (x 30) (x 31))) (s [(7,x 32)]))))))))) (s [(8,b .add (x 8) (i 1))])))))) (q (s [(4,i 0),(3,x 7)]) .ret)))))))
def cf11:CF:=⟨2,33,[(.var 3),(.var 4)],bd11,.plain⟩
def tr11:List Nat:=[0,1,2,4,5,6,7,8,9,10,12,14,16,24,26,46,48,50,51,53,55,56,60,64,86,87,90,91,93,96,97,99,100]
def bd12:Stm:=
 q (q (h 2 .box (c1 (x 0))) (s [(4,i 0),(3,.cst (.slice none 0 0))])) (q (s [(5,i 1)]) (q (.cond (b .eql (b .rem (x 1) (.cst (.int .u8 2))) (.cst (.int .u8
 1))) (s [(5,i 2)]) .skip) (q (.cond (b .gtr (b .rem (x 1) (.cst (.int .u8 4))) (.cst (.int .u8 1))) (s [(5,b .add (x 5) (i 3))]) .skip) (q (q (cl 8 10 (c2
 (n1 (.ld 3 true) (x 2)) (x 5))) (s [(7,ix 1 (x 8)),(6,ix 0 (x 8))])) (q (.cond (p (b .neq (x 7) (i 0)) (.cst (.bool true)) (b .gtr (n1 .len (ld (fa 2 (x
 2)))) (i 2000))) (q (s [(4,i 0),(3,.cst (.slice none 0 0))]) .ret) .skip) (q (s [(4,x 5),(3,x 6)]) .ret))))))
def cf12:CF:=⟨2,9,[(.var 3),(.var 4)],bd12,.plain⟩
def tr12:List Nat:=[0,1,2,4,5,6,7,8,20]
def bd13:Stm:=
 q (q (h 1 (.alloc [.int .i64 0,.int .i64 0,.slice none 0 0]) .nil) (q (h 2 (.alloc [.int .i64 0]) .nil) (q (h 3 (.alloc [.int .i64 0]) .nil) (h 4 (.alloc
 [.int .i64 0]) .nil)))) (q (.cond (b .gtr (n1 .len (x 0)) (i 4194304)) (q (q (.hv [] [] [] none (.st 3) (c2 (x 1) (.node (.build [.int .i64 0,.int .i64 0,
 .slice none 0 0] []) .nil))) (q (.hv [] [] [] none (.st 1) (c2 (x 2) (i 0))) (q (.hv [] [] [] none (.st 1) (c2 (x 3) (i 0))) (.hv [] [] [] none (.st 1) (c2 (x
 4) (i 4)))))) .ret) .skip) (q (.cond (p (b .lss (n1 .len (x 0)) (i 2)) (.cst (.bool true)) (b .neq (ld (n2 (.iAddr 1) (x 0) (i 0))) (.cst (.int .u8 80)))) (q
 (q (.hv [] [] [] none (.st 3) (c2 (x 1) (.node (.build [.int .i64 0,.int .i64 0,.slice none 0 0] []) .nil))) (q (.hv [] [] [] none (.st 1) (c2 (x 2) (i 0)))
 (q (.hv [] [] [] none (.st 1) (c2 (x 3) (i 0))) (.hv [] [] [] none (.st 1) (c2 (x 4) (i 25)))))) .ret) .skip) (q (q (cl 8 20 (c1 (ld (n2 (.iAddr 1) (x 0) (i
 1))))) (q (.hv [(10,ix 1 (x 8)),(9,ix 0 (x 8))] [] [] (some 5) (.alloc [.int .i64 0,.bool false,.bool false]) .nil) (q (.hv [] [] [] none (.st 3) (c2 (x
 5) (x 9))) (s [(6,x 10)])))) (q (.cond (n1 (.un .not) (x 6)) (q (q (.hv [] [] [] none (.st 3) (c2 (x 1) (.node (.build [.int .i64 0,.int .i64 0,.slice none
 0 0] []) .nil))) (q (.hv [] [] [] none (.st 1) (c2 (x 2) (i 0))) (q (.hv [] [] [] none (.st 1) (c2 (x 3) (i 0))) (.hv [] [] [] none (.st 1) (c2 (x 4) (i
 25)))))) .ret) .skip) .skip))))
def md13:Stm:=
 s [(11,.node (.mkF 30 0) (c (x 1) (c3 (x 2) (x 3) (x 4))))]
def rt13:Stm:=
 q (q (.hv [(12,n2 (.build [.slice none 0 0,.int .i64 0] [(0,1),(1,1)]) (x 0) (i 2))] [] [] (some 7) (.alloc [.slice none 0 0,.int .i64 0]) .nil) (.hv []
 [] [] none (.st 2) (c2 (x 7) (x 12)))) (q (q (cl 13 31 (c2 (x 7) (n1 (.ld 3 true) (x 5)))) (.hv [] [] [] none (.st 3) (c2 (x 1) (x 13)))) (q (q (.hv [(17,ld
 (fa 1 (x 7))),(16,fa 1 (x 7)),(15,ld (fa 0 (x 5))),(14,fa 0 (x 5))] [] [] none (.st 3) (c2 (x 1) (n1 (.ld 3 true) (x 1)))) (q (.hv [] [] [] none (.st 1)
 (c2 (x 2) (x 15))) (q (.hv [] [] [] none (.st 1) (c2 (x 3) (x 17))) (q (.hv [] [] [] none (.st 1) (c2 (x 4) (i 0))) (q (.dist (x 1) (x 14)) (q (.dist (x 1) (x
 16)) (.dist (x 2) (x 16)))))))) .ret))
def cf13:CF:=⟨1,18,[(.node (.ld 3 true) (.cons (.var 1) .nil)),(.node (.ld 1 false) (.cons (.var 2) .nil)),(.node (.ld 1 false) (.cons (.var 3) .nil)),(.node (.ld 1 false) (.cons (.var 4) .nil))],bd13,.dfr md13 11 rt13⟩
def tr13:List Nat:=[0,2,3,4,5,6,7,8,27,28,29,33,35,37,39,40,41,42]
def bd14:Stm:=
 q (s [(2,i 0)]) (q (.cond (b .lss (x 1) (i 4)) (q (s [(2,b .sub (n1 .len (x 0)) (i 1))]) .ret) .skip) (q (s [(2,n1 .len (x 0))]) .ret))
def cf14:CF:=⟨2,3,[(.var 2)],bd14,.plain⟩
def tr14:List Nat:=[0,1,4]
def bd15:Stm:=
 q (q (h 2 .box (c1 (x 0))) (q (h 3 .box (c1 (x 1))) (s [(4,.cst (.bool false))]))) (q (.cond (p (p (b .neq (ld (fa 0 (x 2))) (ld (fa 0 (x 3)))) (.cst (.bool
 true)) (b .neq (ld (fa 1 (x 2))) (ld (fa 1 (x 3))))) (.cst (.bool true)) (b .neq (n1 .len (ld (fa 2 (x 2)))) (n1 .len (ld (fa 2 (x 3)))))) (q (s [(4,.cst
 (.bool false))]) .ret) .skip) (q (q (s [(5,i 0)]) (.block 0 (.loop (q (.cond (b .lss (x 5) (n1 .len (ld (fa 2 (x 2))))) .skip (.exit 0)) (q (.block 1 (.cond
 (b .neq (ld (n2 (.iAddr 1) (ld (fa 2 (x 2))) (x 5))) (ld (n2 (.iAddr 1) (ld (fa 2 (x 3))) (x 5)))) (q (s [(4,.cst (.bool false))]) .ret) .skip)) (s [(5,b
 .add (x 5) (i 1))])))))) (q (s [(4,.cst (.bool true))]) .ret)))
def cf15:CF:=⟨2,6,[(.var 4)],bd15,.plain⟩
def tr15:List Nat:=[0,1,2,3,4,5]
def bd16:Stm:=
 q (s [(2,.cst (.bool false))]) (q (q (h 7 .s2b (c1 (x 0))) (q (cl 8 13 (c1 (x 7))) (q (.hv [(12,ix 3 (x 8)),(11,ix 2 (x 8)),(10,ix 1 (x 8)),(9,ix 0 (x
 8))] [] [] (some 3) (.alloc [.int .i64 0,.int .i64 0,.slice none 0 0]) .nil) (q (.hv [] [] [] none (.st 3) (c2 (x 3) (x 9))) (s [(6,x 12),(5,x 11),(4,x
 10)]))))) (q (q (.hv [(13,p (p (b .eql (x 6) (x 1)) (b .eql (x 5) (i 0)) (.cst (.bool false))) (b .eql (x 4) (i 0)) (.cst (.bool false)))] [] [(p (p (b .eql
 (x 6) (x 1)) (b .eql (x 5) (i 0)) (.cst (.bool false))) (b .eql (x 4) (i 0)) (.cst (.bool false)),true)] (some 14) (.call false) (c3 (.cst (.func (.func 15)
 #[] #[])) (n1 (.ld 3 true) (x 3)) (.node (.build [.int .i64 0,.int .i64 0,.slice none 0 0] []) .nil))) (s [(2,p (x 13) (x 14) (.cst (.bool false)))]))
 .ret))
def cf16:CF:=⟨2,15,[(.var 2)],bd16,.plain⟩
def tr16:List Nat:=[0,1,4,5,6,7,8,11,12,13,14,15,16,28,31]
def bd17:Stm:=
 q (s [(2,i 0),(1,.cst (.slice none 0 0))]) (q (.cond (b .gtr (n1 .len (x 0)) (i 4194304)) (q (s [(2,i 4),(1,.cst (.slice none 0 0))]) .ret) .skip) (q (s
 [(3,.cst (.slice none 0 0))]) (.block 0 (.loop (.block 1 (q (q (cl 7 13 (c1 (x 0))) (q (.hv [(11,ix 3 (x 7)),(10,ix 2 (x 7)),(9,ix 1 (x 7)),(8,ix 0 (x
 7))] [] [] (some 4) (.alloc [.int .i64 0,.int .i64 0,.slice none 0 0]) .nil) (q (.hv [] [] [] none (.st 3) (c2 (x 4) (x 8))) (.sets [(6,x 11),(5,x 10)]
 [x 9])))) (q (.cond (b .neq (x 6) (i 0)) (q (s [(2,x 6),(1,.cst (.slice none 0 0))]) .ret) .skip) (q (q (.hv [(12,x 3)] [] [] (some 13) (.bSl [.int .i64
 0,.int .i64 0,.slice none 0 0] 1 [0]) (c1 (n1 (.ld 3 true) (x 4)))) (q (h 14 (.app 3 [.int .i64 0,.int .i64 0,.slice none 0 0]) (c2 (x 12) (x 13))) (s
 [(3,x 14)]))) (q (s [(0,n2 (.sl 1 true false false) (x 0) (x 5))]) (q (.block 2 (.loop (q (q (.hv [(15,b .gtr (n1 .len (x 0)) (i 0))] [] [(b .gtr (n1 .len
 (x 0)) (i 0),true)] (some 16) (.call false) (c2 (.cst (.func (.func 32) #[] #[])) (ld (n2 (.iAddr 1) (x 0) (i 0))))) (.cond (p (x 15) (x 16) (.cst (.bool
 false))) .skip (.exit 2))) (.block 3 (s [(0,n2 (.sl 1 true false false) (x 0) (i 1))]))))) (.cond (b .eql (n1 .len (x 0)) (i 0)) (q (s [(2,i 0),(1,x 3)])
 .ret) .skip)))))))))))
def cf17:CF:=⟨1,17,[(.var 1),(.var 2)],bd17,.plain⟩
def tr17:List Nat:=[0,2,3,4,5,7,8,14,15,16,17,18,22,24,25,32,36]
def bd18:Stm:=
 q (s [(2,i 0),(1,.cst (.slice none 0 0))]) (q (s [(3,.cst (.slice none 0 0))]) (q (s [(4,i 0)]) (q (.block 0 (.loop (q (.cond (p (b .eql (n1 .len (x 3)) (i
 0)) (.cst (.bool true)) (b .lss (x 4) (n1 .len (x 0)))) .skip (.exit 0)) (.block 1 (q (q (cl 8 33 (c1 (n2 (.sl 1 true false false) (x 0) (x 4)))) (q (.hv
 [(12,ix 3 (x 8)),(11,ix 2 (x 8)),(10,ix 1 (x 8)),(9,ix 0 (x 8))] [] [] (some 5) (.alloc [.int .i64 0,.int .i64 0,.slice none 0 0]) .nil) (q (.hv []
 [] [] none (.st 3) (c2 (x 5) (x 9))) (.sets [(7,x 12),(6,x 11)] [x 10])))) (q (.cond (b .neq (x 7) (i 0)) (q (s [(2,x 7),(1,.cst (.slice none 0 0))])
 .ret) .skip) (q (q (.hv [(13,x 3)] [] [] (some 14) (.bSl [.int .i64 0,.int .i64 0,.slice none 0 0] 1 [0]) (c1 (n1 (.ld 3 true) (x 5)))) (q (h 15 (.app 3
 [.int .i64 0,.int .i64 0,.slice none 0 0]) (c2 (x 13) (x 14))) (s [(3,x 15)]))) (q (s [(4,b .add (x 4) (x 6))]) (.block 2 (.loop (q (q (.hv [(16,b .lss
 (x 4) (n1 .len (x 0)))] [] [(b .lss (x 4) (n1 .len (x 0)),true)] (some 17) (.call false) (c2 (.cst (.func (.func 34) #[] #[])) (ld (n2 (.iAddr 1) (x 0) (x
 4))))) (.cond (p (x 16) (x 17) (.cst (.bool false))) .skip (.exit 2))) (.block 3 (s [(4,b .add (x 4) (i 1))]))))))))))))) (q (s [(2,i 0),(1,x 3)])
 .ret))))
def cf18:CF:=⟨1,18,[(.var 1),(.var 2)],bd18,.plain⟩
def tr18:List Nat:=[0,2,3,4,5,6,8,9,23,24,25,26,27,31,33,34,42,47]
def bd19:Stm:=
 q (q (h 1 .box (c1 (x 0))) (s [(2,i 0)])) (q (q (cl 3 35 (c2 (ld (fa 0 (x 1))) (ld (fa 1 (x 1))))) (.cond (p (n1 (.un .not) (x 3)) (.cst (.bool true)) (b .neq
 (n1 .len (ld (fa 2 (x 1)))) (b .mul (ld (fa 0 (x 1))) (ld (fa 1 (x 1)))))) (q (s [(2,i 1)]) .ret) .skip)) (q (s [(2,i 0)]) .ret))
def cf19:CF:=⟨1,4,[(.var 2)],bd19,.plain⟩
def tr19:List Nat:=[0,1,2,7]
def bd20:Stm:=
 q (q (h 1 (.alloc [.int .i64 0,.bool false,.bool false]) .nil) (s [(2,.cst (.bool false))])) (q (q (s [(3,x 0)]) (.block 0 (.cond (b .eql (x 3) (.cst (.int
 .u8 49))) (q (q (.hv [] [] [] none (.st 3) (c2 (x 1) (n1 (.build [.int .i64 0,.bool false,.bool false] [(0,1)]) (i 1)))) (s [(2,.cst (.bool true))]))
 .ret) (.cond (b .eql (x 3) (.cst (.int .u8 50))) (q (q (.hv [] [] [] none (.st 3) (c2 (x 1) (n2 (.build [.int .i64 0,.bool false,.bool false] [(0,1),(1,
 1)]) (i 2) (.cst (.bool true))))) (s [(2,.cst (.bool true))])) .ret) (.cond (b .eql (x 3) (.cst (.int .u8 52))) (q (q (.hv [] [] [] none (.st 3) (c2 (x 1)
 (n2 (.build [.int .i64 0,.bool false,.bool false] [(0,1),(2,1)]) (i 4) (.cst (.bool true))))) (s [(2,.cst (.bool true))])) .ret) (.cond (b .eql (x 3)
 (.cst (.int .u8 53))) (q (q (.hv [] [] [] none (.st 3) (c2 (x 1) (.node (.build [.int .i64 0,.bool false,.bool false] [(0,1),(1,1),(2,1)]) (c3 (i 5)
 (.cst (.bool true)) (.cst (.bool true)))))) (s [(2,.cst (.bool true))])) .ret) .skip)))))) (q (q (.hv [] [] [] none (.st 3) (c2 (x 1) (.node (.build [.int
 .i64 0,.bool false,.bool false] []) .nil))) (s [(2,.cst (.bool false))])) .ret))
def cf20:CF:=⟨1,4,[(.node (.ld 3 true) (.cons (.var 1) .nil)),(.var 2)],bd20,.plain⟩
def tr20:List Nat:=[0,2,3,4]
def bd21:Stm:=
 q (s [(3,.cst (.slice none 0 0))]) (q (q (cl 4 36 (c3 (x 0) (x 1) (x 2))) (s [(3,x 4)])) .ret)
def cf21:CF:=⟨3,5,[(.var 3)],bd21,.plain⟩
def tr21:List Nat:=[0,1,2,6,10]
def bd22:Stm:=
 q (q (h 3 .box (c1 (x 2))) (s [(4,.cst (.slice none 0 0))])) (q (.block 0 (.cond (p (ld (fa 1 (x 3))) (ld (fa 2 (x 3))) (.cst (.bool false))) (q (q (h 7 (.app
 1 [.int .u8 0]) (c2 (x 0) (x 1))) (s [(4,x 7)])) .ret) (.cond (ld (fa 1 (x 3))) (q (q (cl 8 37 (c2 (x 0) (x 1))) (s [(4,x 8)])) .ret) (.cond (ld (fa 2 (x
 3))) (q (q (cl 9 38 (c2 (x 0) (x 1))) (s [(4,x 9)])) .ret) .skip)))) (q (q (s [(12,i 0),(11,n1 .len (x 1)),(10,x 1)]) (.block 1 (.loop (q (.cond (b .lss
 (x 12) (x 11)) .skip (.exit 1)) (q (.block 2 (q (s [(6,ld (n2 (.iAddr 1) (x 10) (x 12))),(5,x 12)]) (q (.cond (b .eql (x 6) (.cst (.int .u8 0))) (q (.hv
 [(13,x 0)] [] [] (some 14) (.bSl [.int .u8 0] 1 [0]) (c1 (.cst (.int .u8 49)))) (q (h 15 (.app 1 [.int .u8 0]) (c2 (x 13) (x 14))) (s [(0,x 15)]))) (q (.hv
 [(16,x 0)] [] [] (some 17) (.bSl [.int .u8 0] 1 [0]) (c1 (.cst (.int .u8 48)))) (q (h 18 (.app 1 [.int .u8 0]) (c2 (x 16) (x 17))) (s [(0,x 18)])))) (.cond
 (p (b .eql (b .rem (x 5) (i 70)) (i 69)) (.cst (.bool true)) (b .eql (x 5) (b .sub (n1 .len (x 1)) (i 1)))) (q (.hv [(19,x 0)] [] [] (some 20) (.bSl [.int
 .u8 0] 1 [0]) (c1 (.cst (.int .u8 10)))) (q (h 21 (.app 1 [.int .u8 0]) (c2 (x 19) (x 20))) (s [(0,x 21)]))) .skip)))) (s [(12,b .add (x 12) (i 1))]))))))
 (q (s [(4,x 0)]) .ret)))
def cf22:CF:=⟨3,22,[(.var 4)],bd22,.plain⟩
def tr22:List Nat:=[0,1,2,5,6,7,8,18,24,30,31,32,33,40,41,42,43,44,45,56,57,58]
def bd23:Stm:=
 q (q (h 1 .box (c1 (x 0))) (s [(2,i 0)])) (q (q (cl 3 39 (c1 (n1 (.ld 3 true) (x 1)))) (.cond (n1 (.un .not) (x 3)) (q (s [(2,i 1)]) .ret) .skip)) (q (s [(2,
 i 0)]) .ret))
def cf23:CF:=⟨1,4,[(.var 2)],bd23,.plain⟩
def tr23:List Nat:=[0,1,2,4]
def bd24:Stm:=
 q (s [(1,.cst (.bool false))]) (q (q (cl 2 27 (c1 (x 0))) (s [(1,p (p (x 2) (.cst (.bool true)) (b .eql (x 0) (i 4))) (.cst (.bool true)) (b .eql (x 0) (i
 5)))])) .ret)
def cf24:CF:=⟨1,3,[(.var 1)],bd24,.plain⟩
def tr24:List Nat:=[0,2,4]
def bd25:Stm:=
 q (s [(1,.cst (.bool false))]) (q (s [(1,p (b .eql (x 0) (i 2)) (.cst (.bool true)) (b .eql (x 0) (i 5)))]) .ret)
def cf25:CF:=⟨1,2,[(.var 1)],bd25,.plain⟩
def tr25:List Nat:=[0,2]
def bd26:Stm:=
 q (s [(1,.cst (.string ⟨ #[] ⟩))]) (q (s [(2,.cst (.string ⟨ #[] ⟩))]) (q (.block 0 (.loop (q (.cond (b .geq (x 0) (i 10)) .skip (.exit 0)) (.block 1 (q (q (h
 3 (.bSl [.int .u8 0] 1 [0]) (c1 (n1 (.cvt .u8) (b .add (i 48) (b .rem (x 0) (i 10)))))) (s [(2,b .add (n1 .b2s (x 3)) (x 2))])) (s [(0,b .quo (x 0) (i
 10))])))))) (q (q (h 4 (.bSl [.int .u8 0] 1 [0]) (c1 (n1 (.cvt .u8) (b .add (i 48) (x 0))))) (s [(1,b .add (n1 .b2s (x 4)) (x 2))])) .ret)))
def cf26:CF:=⟨1,5,[(.var 1)],bd26,.plain⟩
def tr26:List Nat:=[0,2,3,10,19]
def bd27:Stm:=
 q (s [(1,.cst (.bool false))]) (q (s [(1,p (b .eql (x 0) (i 1)) (.cst (.bool true)) (b .eql (x 0) (i 2)))]) .ret)
def cf27:CF:=⟨1,2,[(.var 1)],bd27,.plain⟩
def tr27:List Nat:=[0,2]
def bd28:Stm:=
 q (s [(2,.cst (.string ⟨ #[] ⟩))]) (q (s [(3,.cst (.string ⟨ #[] ⟩))]) (q (q (s [(4,i 0)]) (.block 0 (.loop (q (.cond (b .lss (x 4) (n1 .len (x 0))) .skip
 (.exit 0)) (q (.block 1 (q (.cond (p (p (p (b .eql (x 1) (i 1)) (b .gtr (x 4) (i 0)) (.cst (.bool false))) (b .eql (b .rem (x 4) (i 70)) (i 0)) (.cst (.bool
 false))) (.cst (.bool true)) (p (p (b .eql (x 1) (i 2)) (b .gtr (x 4) (i 0)) (.cst (.bool false))) (b .eql (b .rem (x 4) (i 17)) (i 0)) (.cst (.bool false))))
 (s [(3,b .add (x 3) (.cst (.string ⟨ #[10] ⟩)))]) (.cond (p (b .eql (x 1) (i 2)) (b .gtr (x 4) (i 0)) (.cst (.bool false))) (s [(3,b .add (x 3) (.cst
 (.string ⟨ #[32] ⟩)))]) .skip)) (.cond (b .eql (x 1) (i 2)) (q (.hv [(5,x 3)] [] [] (some 6) (.call false) (c2 (.cst (.func (.func 26) #[] #[])) (n1 (.cvt
 .i64) (ld (n2 (.iAddr 1) (x 0) (x 4)))))) (s [(3,b .add (x 5) (x 6))])) (.cond (b .eql (ld (n2 (.iAddr 1) (x 0) (x 4))) (.cst (.int .u8 0))) (s [(3,b .add
 (x 3) (.cst (.string ⟨ #[49] ⟩)))]) (s [(3,b .add (x 3) (.cst (.string ⟨ #[48] ⟩)))]))))) (s [(4,b .add (x 4) (i 1))])))))) (q (s [(2,b .add (x 3) (.cst
 (.string ⟨ #[10] ⟩)))]) .ret)))
def cf28:CF:=⟨2,7,[(.var 2)],bd28,.plain⟩
def tr28:List Nat:=[0,1,4,5,6,49,55]
def bd29:Stm:=
 q (s [(1,.cst (.slice none 0 0))]) (q (s [(2,.cst (.slice none 0 0))]) (q (q (s [(3,i 0)]) (.block 0 (.loop (q (.cond (b .lss (x 3) (n1 .len (x 0))) .skip
 (.exit 0)) (q (.block 1 (q (s [(4,i 0)]) (q (q (s [(5,x 3)]) (.block 2 (.loop (q (.cond (b .lss (x 5) (b .add (x 3) (i 8))) .skip (.exit 2)) (q (.block 3 (q
 (s [(4,b .mul (i 2) (x 4))]) (.cond (p (b .lss (x 5) (n1 .len (x 0))) (b .eql (ld (n2 (.iAddr 1) (x 0) (x 5))) (.cst (.int .u8 0))) (.cst (.bool false))) (s
 [(4,b .add (x 4) (i 1))]) .skip))) (s [(5,b .add (x 5) (i 1))])))))) (q (.hv [(6,x 2)] [] [] (some 7) (.bSl [.int .u8 0] 1 [0]) (c1 (n1 (.cvt .u8) (x 4))))
 (q (h 8 (.app 1 [.int .u8 0]) (c2 (x 6) (x 7))) (s [(2,x 8)])))))) (s [(3,b .add (x 3) (i 8))])))))) (q (s [(1,x 2)]) .ret)))
def cf29:CF:=⟨1,9,[(.var 1)],bd29,.plain⟩
def tr29:List Nat:=[0,2,3,4,5,6,35,38,39]
def bd30:Stm:=
 q (q (.hv [(8,ix 1 (n1 (.tas 58 [.int .i64 0]) (x 6))),(7,ix 0 (n1 (.tas 58 [.int .i64 0]) (x 6))),(6,x 6)] [] [] (some 4) (.alloc [.int .i64 0]) .nil) (q
 (.hv [] [] [] none (.st 1) (c2 (x 4) (x 7))) (s [(5,x 8)]))) (.cond (x 5) (q (.hv [(10,ld (fa 0 (x 4))),(9,fa 0 (x 4))] [] [] none (.st 3) (c2 (x 0)
 (.node (.build [.int .i64 0,.int .i64 0,.slice none 0 0] []) .nil))) (q (.hv [] [] [] none (.st 1) (c2 (x 1) (i 0))) (q (.hv [] [] [] none (.st 1) (c2 (x 2)
 (i 0))) (q (.hv [] [] [] none (.st 1) (c2 (x 3) (x 10))) (q (.dist (x 0) (x 9)) (q (.dist (x 1) (x 9)) (.dist (x 2) (x 9)))))))) .skip)
def cf30:CF:=⟨4,11,[],bd30,.rcv 6⟩
def tr30:List Nat:=[0,1,2,3,4,5,7,9,10,13,14]
def bd31:Stm:=
 q (q (h 2 .box (c1 (x 1))) (h 3 (.alloc [.int .i64 0,.int .i64 0,.slice none 0 0]) .nil)) (q (q (cl 6 40 (c3 (x 0) (i 0) (i 65535))) (q (.hv [(7,n2 (.build
 [.int .i64 0,.int .i64 0,.slice none 0 0] [(0,1),(1,1)]) (x 6) (i 0))] [] [] (some 4) (.alloc [.int .i64 0,.int .i64 0,.slice none 0 0]) .nil) (.hv []
 [] [] none (.st 3) (c2 (x 4) (x 7))))) (q (q (cl 8 40 (c3 (x 0) (i 0) (i 65535))) (.hv [] [] [] none (.st 1) (c2 (fa 1 (x 4)) (x 8)))) (q (.hv [] [] [] none
 (.call false) (c3 (.cst (.func (.func 41) #[] #[])) (p (p (p (b .geq (ld (fa 0 (x 4))) (i 1)) (b .leq (ld (fa 0 (x 4))) (i 4096)) (.cst (.bool false))) (b
 .geq (ld (fa 1 (x 4))) (i 1)) (.cst (.bool false))) (b .leq (ld (fa 1 (x 4))) (i 4096)) (.cst (.bool false))) (i 23))) (q (.hv [] [] [] none (.call false) (c3
 (.cst (.func (.func 41) #[] #[])) (b .leq (b .mul (ld (fa 0 (x 4))) (ld (fa 1 (x 4)))) (i 4194304)) (i 23))) (q (s [(5,i 1)]) (q (.cond (ld (fa 1 (x 2))) (q
 (cl 9 40 (c3 (x 0) (i 1) (i 255))) (s [(5,x 9)])) .skip) (q (.cond (ld (fa 2 (x 2))) (q (q (h 10 .callC (c2 (.cst (.func (.func 32) #[] #[])) (ld (n2 (.iAddr
 1) (ld (fa 0 (n1 .nilChk (x 0)))) (ld (fa 1 (n1 .nilChk (x 0)))))))) (.hv [] [] [] none (.call false) (c3 (.cst (.func (.func 41) #[] #[])) (x 10) (i 9))))
 (.hv [] [] [] none (.st 1) (c2 (fa 1 (n1 .nilChk (x 0))) (b .add (ld (fa 1 (n1 .nilChk (x 0)))) (i 1))))) .skip) (q (.block 0 (.cond (p (ld (fa 1 (x 2))) (ld
 (fa 2 (x 2))) (.cst (.bool false))) (q (cl 12 42 (c3 (x 0) (b .mul (ld (fa 0 (x 4))) (ld (fa 1 (x 4)))) (x 5))) (.hv [] [] [] none (.st 1) (c2 (fa 2 (x 4)) (x
 12)))) (.cond (ld (fa 1 (x 2))) (q (cl 13 43 (c3 (x 0) (b .mul (ld (fa 0 (x 4))) (ld (fa 1 (x 4)))) (x 5))) (.hv [] [] [] none (.st 1) (c2 (fa 2 (x 4)) (x
 13)))) (.cond (ld (fa 2 (x 2))) (q (cl 14 44 (c3 (x 0) (ld (fa 0 (x 4))) (ld (fa 1 (x 4))))) (.hv [] [] [] none (.st 1) (c2 (fa 2 (x 4)) (x 14)))) (q (cl 11
 45 (c2 (x 0) (b .mul (ld (fa 0 (x 4))) (ld (fa 1 (x 4)))))) (.hv [] [] [] none (.st 1) (c2 (fa 2 (x 4)) (x 11)))))))) (q (.hv [] [] [] none (.st 3) (c2 (x 3)
 (n1 (.ld 3 true) (x 4)))) .ret)))))))))
def cf31:CF:=⟨2,15,[(.node (.ld 3 true) (.cons (.var 3) .nil))],bd31,.plain⟩
def tr31:List Nat:=[0,1,3,4,5,6,8,9,11,42,55,70,86,98,108]
def bd32:Stm:=
 q (s [(1,.cst (.bool false))]) (q (s [(1,p (p (p (b .eql (x 0) (.cst (.int .u8 32))) (.cst (.bool true)) (b .eql (x 0) (.cst (.int .u8 9)))) (.cst (.bool
 true)) (b .eql (x 0) (.cst (.int .u8 10)))) (.cst (.bool true)) (b .eql (x 0) (.cst (.int .u8 13))))]) .ret)
def cf32:CF:=⟨1,2,[(.var 1)],bd32,.plain⟩
def tr32:List Nat:=[0,2]
def bd33:Stm:=
 q (q (h 1 (.alloc [.int .i64 0,.int .i64 0,.slice none 0 0]) .nil) (s [(4,i 0),(3,i 0),(2,i 0)])) (q (.cond (b .gtr (n1 .len (x 0)) (i 4194304)) (q (q
 (.hv [] [] [] none (.st 3) (c2 (x 1) (.node (.build [.int .i64 0,.int .i64 0,.slice none 0 0] []) .nil))) (s [(4,i 4),(3,i 0),(2,i 0)])) .ret) .skip)
 (q (q (.hv [(12,p (b .lss (n1 .len (x 0)) (i 2)) (.cst (.bool true)) (b .neq (ld (n2 (.iAddr 1) (x 0) (i 0))) (.cst (.int .u8 80))))] [] [(p (b .lss (n1 .len
 (x 0)) (i 2)) (.cst (.bool true)) (b .neq (ld (n2 (.iAddr 1) (x 0) (i 0))) (.cst (.int .u8 80))),false)] (some 13) (.call false) (c2 (.cst (.func (.func 24)
 #[] #[])) (b .sub (n1 (.cvt .i64) (ld (n2 (.iAddr 1) (x 0) (i 1)))) (i 48)))) (.cond (p (x 12) (.cst (.bool true)) (n1 (.un .not) (x 13))) (q (q (.hv [] [] []
 none (.st 3) (c2 (x 1) (.node (.build [.int .i64 0,.int .i64 0,.slice none 0 0] []) .nil))) (s [(4,i 25),(3,i 0),(2,i 0)])) .ret) .skip)) (q (s [(5,b
 .sub (n1 (.cvt .i64) (ld (n2 (.iAddr 1) (x 0) (i 1)))) (i 48))]) (q (q (cl 14 46 (c2 (x 0) (x 5))) (s [(10,ix 4 (x 14)),(9,ix 3 (x 14)),(8,ix 2 (x 14)),
 (7,ix 1 (x 14)),(6,ix 0 (x 14))])) (q (.cond (b .neq (x 10) (i 0)) (q (q (.hv [(15,x 10)] [] [] none (.st 3) (c2 (x 1) (.node (.build [.int .i64 0,.int
 .i64 0,.slice none 0 0] []) .nil))) (s [(4,x 15),(3,i 0),(2,i 0)])) .ret) .skip) (q (s [(11,.cst (.slice none 0 0))]) (q (.cond (b .eql (x 5) (i 1)) (q
 (cl 16 47 (c3 (x 0) (x 9) (b .mul (x 6) (x 7)))) (s [(10,ix 2 (x 16)),(9,ix 1 (x 16)),(11,ix 0 (x 16))])) (.cond (b .eql (x 5) (i 2)) (q (cl 17 48 (c (x
 0) (c3 (x 9) (b .mul (x 6) (x 7)) (x 8)))) (s [(10,ix 2 (x 17)),(9,ix 1 (x 17)),(11,ix 0 (x 17))])) (q (cl 18 49 (c (x 0) (c (x 9) (c (x 6) (c3 (x 7) (x
 8) (x 5)))))) (s [(10,ix 2 (x 18)),(9,ix 1 (x 18)),(11,ix 0 (x 18))])))) (q (.cond (b .neq (x 10) (i 0)) (q (q (.hv [(19,x 10)] [] [] none (.st 3) (c2
 (x 1) (.node (.build [.int .i64 0,.int .i64 0,.slice none 0 0] []) .nil))) (s [(4,x 19),(3,i 0),(2,i 0)])) .ret) .skip) (q (q (.hv [(21,x 9),(20,x
 5)] [] [] none (.st 3) (c2 (x 1) (.node (.build [.int .i64 0,.int .i64 0,.slice none 0 0] [(0,1),(1,1),(2,1)]) (c3 (x 6) (x 7) (x 11))))) (s [(4,i 0),
 (3,x 21),(2,x 20)])) .ret)))))))))
def cf33:CF:=⟨1,22,[(.node (.ld 3 true) (.cons (.var 1) .nil)),(.var 2),(.var 3),(.var 4)],bd33,.plain⟩
def tr33:List Nat:=[0,2,3,4,5,6,7,8,9,10,11,12,26,32,44,53,62,75,86,93,98,99]
def bd34:Stm:=
 q (s [(1,.cst (.bool false))]) (q (s [(1,p (p (p (b .eql (x 0) (.cst (.int .u8 32))) (.cst (.bool true)) (b .eql (x 0) (.cst (.int .u8 9)))) (.cst (.bool
 true)) (b .eql (x 0) (.cst (.int .u8 10)))) (.cst (.bool true)) (b .eql (x 0) (.cst (.int .u8 13))))]) .ret)
def cf34:CF:=⟨1,2,[(.var 1)],bd34,.plain⟩
def tr34:List Nat:=[0,2]
def bd35:Stm:=
 q (s [(2,.cst (.bool false))]) (q (s [(2,p (p (p (p (b .geq (x 0) (i 1)) (b .leq (x 0) (i 4096)) (.cst (.bool false))) (b .geq (x 1) (i 1)) (.cst (.bool
 false))) (b .leq (x 1) (i 4096)) (.cst (.bool false))) (b .leq (b .mul (x 0) (x 1)) (i 4194304)) (.cst (.bool false)))]) .ret)
def cf35:CF:=⟨2,3,[(.var 2)],bd35,.plain⟩
def tr35:List Nat:=[0,1,4]
def bd36:Stm:=
 q (s [(3,.cst (.slice none 0 0))]) (q (s [(4,n1 (.cvt .u64) (x 1))]) (q (.cond (b .lss (x 1) (i 0)) (q (q (.hv [(5,x 0)] [] [] (some 6) (.bSl [.int .u8 0] 1
 [0]) (c1 (.cst (.int .u8 45)))) (q (h 7 (.app 1 [.int .u8 0]) (c2 (x 5) (x 6))) (s [(0,x 7)]))) (s [(4,n1 (.un .neg) (x 4))])) .skip) (q (q (cl 8 50 (c3 (x
 0) (x 4) (x 2))) (s [(3,x 8)])) .ret)))
def cf36:CF:=⟨3,9,[(.var 3)],bd36,.plain⟩
def tr36:List Nat:=[0,1,2,6,7,12,13,14,20]
def bd37:Stm:=
 q (s [(2,.cst (.slice none 0 0))]) (q (q (s [(7,i 0),(6,n1 .len (x 1)),(5,x 1)]) (.block 0 (.loop (q (.cond (b .lss (x 7) (x 6)) .skip (.exit 0)) (q
 (.block 1 (q (s [(4,ld (n2 (.iAddr 1) (x 5) (x 7))),(3,x 7)]) (q (q (cl 8 21 (c3 (x 0) (n1 (.cvt .i64) (x 4)) (i 10))) (s [(0,x 8)])) (.cond (p (b .eql (b
 .rem (x 3) (i 17)) (i 16)) (.cst (.bool true)) (b .eql (x 3) (b .sub (n1 .len (x 1)) (i 1)))) (q (.hv [(9,x 0)] [] [] (some 10) (.bSl [.int .u8 0] 1 [0]) (c1
 (.cst (.int .u8 10)))) (q (h 11 (.app 1 [.int .u8 0]) (c2 (x 9) (x 10))) (s [(0,x 11)]))) (q (.hv [(12,x 0)] [] [] (some 13) (.bSl [.int .u8 0] 1 [0]) (c1
 (.cst (.int .u8 32)))) (q (h 14 (.app 1 [.int .u8 0]) (c2 (x 12) (x 13))) (s [(0,x 14)]))))))) (s [(7,b .add (x 7) (i 1))])))))) (q (s [(2,x 0)]) .ret))
def cf37:CF:=⟨2,15,[(.var 2)],bd37,.plain⟩
def tr37:List Nat:=[0,1,4,5,6,7,8,9,17,28,29,30,31,32,33]
def bd38:Stm:=
 q (s [(2,.cst (.slice none 0 0))]) (q (q (s [(7,i 0),(6,n1 .len (x 1)),(5,x 1)]) (.block 0 (.loop (q (.cond (b .lss (x 7) (x 6)) .skip (.exit 0)) (q
 (.block 1 (q (s [(4,ld (n2 (.iAddr 1) (x 5) (x 7))),(3,x 7)]) (q (.cond (b .eql (b .rem (x 3) (i 8)) (i 0)) (q (.hv [(8,x 0)] [] [] (some 9) (.bSl [.int
 .u8 0] 1 [0]) (c1 (.cst (.int .u8 0)))) (q (h 10 (.app 1 [.int .u8 0]) (c2 (x 8) (x 9))) (s [(0,x 10)]))) .skip) (.cond (b .eql (x 4) (.cst (.int .u8 0)))
 (.hv [] [] [] none (.st 1) (c2 (n2 (.iAddr 1) (x 0) (b .sub (n1 .len (x 0)) (i 1))) (b .or (ld (n2 (.iAddr 1) (x 0) (b .sub (n1 .len (x 0)) (i 1)))) (b .shr
 (.cst (.int .u8 128)) (b .rem (x 3) (i 8)))))) .skip)))) (s [(7,b .add (x 7) (i 1))])))))) (q (s [(2,x 0)]) .ret))
def cf38:CF:=⟨2,11,[(.var 2)],bd38,.plain⟩
def tr38:List Nat:=[0,1,4,5,6,7,8,9,17,18,19]
def bd39:Stm:=
 q (q (h 1 .box (c1 (x 0))) (s [(2,.cst (.bool false))])) (q (q (cl 3 51 (c2 (ld (fa 0 (x 1))) (ld (fa 1 (x 1))))) (s [(2,p (x 3) (b .eql (n1 .len (ld (fa 2 (x
 1)))) (b .mul (ld (fa 0 (x 1))) (ld (fa 1 (x 1))))) (.cst (.bool false)))])) .ret)
def cf39:CF:=⟨1,4,[(.var 2)],bd39,.plain⟩
def tr39:List Nat:=[0,1,2,7]
def bd40:Stm:=
 q (s [(3,i 0)]) (q (q (cl 5 52 (c1 (x 0))) (s [(4,x 5)])) (q (q (cl 6 53 (c1 (x 0))) (.hv [] [] [] none (.call false) (c3 (.cst (.func (.func 41) #[] #[]))
 (n1 (.un .not) (x 6)) (i 10)))) (q (.hv [] [] [] none (.call false) (c3 (.cst (.func (.func 41) #[] #[])) (p (b .geq (x 4) (x 1)) (b .leq (x 4) (x 2)) (.cst
 (.bool false))) (i 3))) (q (s [(3,x 4)]) .ret))))
def cf40:CF:=⟨3,7,[(.var 3)],bd40,.plain⟩
def tr40:List Nat:=[0,1,2,6,7,9,11]
def bd41:Stm:=
 .cond (n1 (.un .not) (x 0)) (.hv [] [] [] none .pan (c1 (n1 (.mkI 58) (n1 (.build [.int .i64 0] [(0,1)]) (x 1))))) .skip
def cf41:CF:=⟨2,2,[],bd41,.plain⟩
def tr41:List Nat:=[0,1]
def bd42:Stm:=
 q (s [(3,.cst (.slice none 0 0))]) (q (q (h 6 (.mkSl [.int .u8 0]) (c2 (i 0) (x 1))) (s [(4,x 6)])) (q (q (q (cl 7 54 (c2 (x 0) (x 1))) (s [(9,i 0),(8,n1
 .len (x 7))])) (.block 0 (.loop (q (.cond (b .lss (x 9) (x 8)) .skip (.exit 0)) (q (.block 1 (q (s [(5,ld (n2 (.iAddr 1) (x 7) (x 9)))]) (q (.hv [] [] []
 none (.call false) (c3 (.cst (.func (.func 41) #[] #[])) (b .leq (n1 (.cvt .i64) (x 5)) (x 2)) (i 3))) (q (.hv [(10,x 4)] [] [] (some 11) (.call false) (c3
 (.cst (.func (.func 55) #[] #[])) (n1 (.cvt .i64) (x 5)) (x 2))) (q (h 12 (.bSl [.int .u8 0] 1 [0]) (c1 (x 11))) (q (h 13 (.app 1 [.int .u8 0]) (c2 (x 10) (x
 12))) (s [(4,x 13)]))))))) (s [(9,b .add (x 9) (i 1))])))))) (q (s [(3,x 4)]) .ret)))
def cf42:CF:=⟨3,14,[(.var 3)],bd42,.plain⟩
def tr42:List Nat:=[0,1,2,6,7,9,11,14,15,16,25,29,30,31]
def bd43:Stm:=
 q (s [(3,.cst (.slice none 0 0))]) (q (q (h 7 (.mkSl [.int .u8 0]) (c2 (x 1) (x 1))) (s [(4,x 7)])) (q (q (s [(9,i 0),(8,n1 .len (x 4))]) (.block 0 (.loop
 (q (.cond (b .lss (x 9) (x 8)) .skip (.exit 0)) (q (.block 1 (q (s [(5,x 9)]) (q (q (cl 10 52 (c1 (x 0))) (s [(6,x 10)])) (q (.hv [] [] [] none (.call
 false) (c3 (.cst (.func (.func 41) #[] #[])) (b .leq (x 6) (x 2)) (i 3))) (q (.hv [(12,x 5),(11,x 4)] [] [] (some 13) (.call false) (c3 (.cst (.func (.func
 55) #[] #[])) (x 6) (x 2))) (.hv [] [] [] none (.st 1) (c2 (n2 (.iAddr 1) (x 11) (x 12)) (x 13)))))))) (s [(9,b .add (x 9) (i 1))])))))) (q (q (cl 14 53 (c1
 (x 0))) (q (.hv [(15,x 14)] [] [(x 14,false)] (some 16) (.call false) (c2 (.cst (.func (.func 56) #[] #[])) (x 0))) (.hv [] [] [] none (.call false) (c3
 (.cst (.func (.func 41) #[] #[])) (p (x 15) (.cst (.bool true)) (x 16)) (i 9))))) (q (s [(3,x 4)]) .ret))))
def cf43:CF:=⟨3,17,[(.var 3)],bd43,.plain⟩
def tr43:List Nat:=[0,1,2,6,7,8,9,11,13,14,18,23,24,27,31,32,34]
def bd44:Stm:=
 q (s [(3,.cst (.slice none 0 0))]) (q (s [(4,b .quo (b .add (x 1) (i 7)) (i 8))]) (q (q (cl 10 54 (c2 (x 0) (b .mul (x 4) (x 2)))) (s [(5,x 10)])) (q (q (h
 11 (.mkSl [.int .u8 0]) (c2 (i 0) (b .mul (x 1) (x 2)))) (s [(6,x 11)])) (q (q (s [(13,i 0),(12,x 2)]) (.block 0 (.loop (q (.cond (b .lss (x 13) (x 12))
 .skip (.exit 0)) (q (.block 1 (q (s [(7,x 13)]) (q (s [(15,i 0),(14,x 1)]) (.block 2 (.loop (q (.cond (b .lss (x 15) (x 14)) .skip (.exit 2)) (q (.block 3
 (q (s [(8,x 15)]) (q (s [(9,.cst (.int .u8 255))]) (q (.cond (b .neq (b .and (ld (n2 (.iAddr 1) (x 5) (b .add (b .mul (x 7) (x 4)) (b .quo (x 8) (i 8)))))
 (b .shr (.cst (.int .u8 128)) (b .rem (x 8) (i 8)))) (.cst (.int .u8 0))) (s [(9,.cst (.int .u8 0))]) .skip) (q (.hv [(16,x 6)] [] [] (some 17) (.bSl [.int
 .u8 0] 1 [0]) (c1 (x 9))) (q (h 18 (.app 1 [.int .u8 0]) (c2 (x 16) (x 17))) (s [(6,x 18)]))))))) (s [(15,b .add (x 15) (i 1))])))))))) (s [(13,b .add (x
 13) (i 1))])))))) (q (s [(3,x 6)]) .ret)))))
def cf44:CF:=⟨3,19,[(.var 3)],bd44,.plain⟩
def tr44:List Nat:=[0,1,2,6,7,8,9,10,11,12,20,24,25,26,29,30,47,49,50]
def bd45:Stm:=
 q (s [(2,.cst (.slice none 0 0))]) (q (q (h 6 (.mkSl [.int .u8 0]) (c2 (x 1) (x 1))) (s [(3,x 6)])) (q (q (s [(8,i 0),(7,n1 .len (x 3))]) (.block 0 (.loop
 (q (.cond (b .lss (x 8) (x 7)) .skip (.exit 0)) (q (.block 1 (q (s [(4,x 8)]) (q (.hv [] [] [] none (.call false) (c2 (.cst (.func (.func 57) #[] #[])) (x
 0))) (q (q (cl 9 53 (c1 (x 0))) (.hv [] [] [] none (.call false) (c3 (.cst (.func (.func 41) #[] #[])) (n1 (.un .not) (x 9)) (i 10)))) (q (s [(5,ld (n2
 (.iAddr 1) (ld (fa 0 (n1 .nilChk (x 0)))) (ld (fa 1 (n1 .nilChk (x 0))))))]) (q (.hv [] [] [] none (.call false) (c3 (.cst (.func (.func 41) #[] #[])) (p (b
 .eql (x 5) (.cst (.int .u8 48))) (.cst (.bool true)) (b .eql (x 5) (.cst (.int .u8 49)))) (i 9))) (q (.hv [] [] [] none (.st 1) (c2 (fa 1 (n1 .nilChk (x 0)))
 (b .add (ld (fa 1 (n1 .nilChk (x 0)))) (i 1)))) (.cond (b .eql (x 5) (.cst (.int .u8 48))) (.hv [] [] [] none (.st 1) (c2 (n2 (.iAddr 1) (x 3) (x 4)) (.cst
 (.int .u8 255)))) .skip)))))))) (s [(8,b .add (x 8) (i 1))])))))) (q (s [(2,x 3)]) .ret)))
def cf45:CF:=⟨2,10,[(.var 2)],bd45,.plain⟩
def tr45:List Nat:=[0,1,4,5,6,7,9,11,12,18]
def bd46:Stm:=
 q (s [(6,i 0),(5,i 0),(4,i 0),(3,i 0),(2,i 0)]) (q (q (cl 16 58 (c2 (x 0) (i 2))) (s [(9,ix 2 (x 16)),(8,ix 1 (x 16)),(7,ix 0 (x 16))])) (q (.cond
 (b .neq (x 9) (i 0)) (q (s [(6,x 9),(5,i 0),(4,i 0),(3,i 0),(2,i 0)]) .ret) .skip) (q (q (cl 17 58 (c2 (x 0) (x 8))) (s [(12,ix 2 (x 17)),(11,ix 1
 (x 17)),(10,ix 0 (x 17))])) (q (.cond (b .neq (x 12) (i 0)) (q (s [(6,x 12),(5,i 0),(4,i 0),(3,i 0),(2,i 0)]) .ret) .skip) (q (.cond (p (p (p (p (b
 .lss (x 7) (i 1)) (.cst (.bool true)) (b .gtr (x 7) (i 4096))) (.cst (.bool true)) (b .lss (x 10) (i 1))) (.cst (.bool true)) (b .gtr (x 10) (i 4096))) (.cst
 (.bool true)) (b .gtr (b .mul (x 7) (x 10)) (i 4194304))) (q (s [(6,i 23),(5,i 0),(4,i 0),(3,i 0),(2,i 0)]) .ret) .skip) (q (q (cl 18 25 (c1 (x 1)))
 (.cond (n1 (.un .not) (x 18)) (q (s [(6,i 0),(5,x 11),(4,i 1),(3,x 10),(2,x 7)]) .ret) .skip)) (q (q (cl 19 58 (c2 (x 0) (x 11))) (s [(15,ix 2 (x
 19)),(14,ix 1 (x 19)),(13,ix 0 (x 19))])) (q (.cond (b .neq (x 15) (i 0)) (q (s [(6,x 15),(5,i 0),(4,i 0),(3,i 0),(2,i 0)]) .ret) .skip) (q
 (.cond (p (b .lss (x 13) (i 1)) (.cst (.bool true)) (b .gtr (x 13) (i 255))) (q (s [(6,i 3),(5,i 0),(4,i 0),(3,i 0),(2,i 0)]) .ret) .skip) (q (s [(6,
 i 0),(5,x 14),(4,x 13),(3,x 10),(2,x 7)]) .ret))))))))))
def cf46:CF:=⟨2,20,[(.var 2),(.var 3),(.var 4),(.var 5),(.var 6)],bd46,.plain⟩
def tr46:List Nat:=[0,1,4,5,6,7,8,9,10,11,12,13,14,15,16,17,20,30,58,66]
def bd47:Stm:=
 q (s [(5,i 0),(4,i 0),(3,.cst (.slice none 0 0))]) (q (s [(6,.cst (.slice none 0 0))]) (q (.block 0 (.loop (q (.cond (b .lss (n1 .len (x 6)) (x 2)) .skip
 (.exit 0)) (.block 1 (q (q (cl 7 59 (c2 (x 0) (x 1))) (s [(1,x 7)])) (q (.cond (b .eql (x 1) (n1 .len (x 0))) (q (s [(5,i 10),(4,i 0),(3,.cst (.slice
 none 0 0))]) .ret) .skip) (q (.cond (p (b .neq (ld (n2 (.iAddr 1) (x 0) (x 1))) (.cst (.int .u8 48))) (b .neq (ld (n2 (.iAddr 1) (x 0) (x 1))) (.cst (.int .u8
 49))) (.cst (.bool false))) (q (s [(5,i 9),(4,i 0),(3,.cst (.slice none 0 0))]) .ret) .skip) (q (q (.hv [(8,x 6)] [] [] (some 9) (.bSl [.int .u8 0] 1
 [0]) (c1 (b .mul (b .sub (.cst (.int .u8 49)) (ld (n2 (.iAddr 1) (x 0) (x 1)))) (.cst (.int .u8 255))))) (q (h 10 (.app 1 [.int .u8 0]) (c2 (x 8) (x 9))) (s
 [(6,x 10)]))) (s [(1,b .add (x 1) (i 1))]))))))))) (q (s [(5,i 0),(4,x 1),(3,x 6)]) .ret)))
def cf47:CF:=⟨3,11,[(.var 3),(.var 4),(.var 5)],bd47,.plain⟩
def tr47:List Nat:=[0,1,2,6,7,8,9,16,33,40,41]
def bd48:Stm:=
 q (s [(6,i 0),(5,i 0),(4,.cst (.slice none 0 0))]) (q (s [(7,.cst (.slice none 0 0))]) (q (.block 0 (.loop (q (.cond (b .lss (n1 .len (x 7)) (x 2)) .skip
 (.exit 0)) (.block 1 (q (q (cl 11 60 (c2 (x 0) (x 1))) (s [(10,ix 2 (x 11)),(9,ix 1 (x 11)),(8,ix 0 (x 11))])) (q (.cond (b .neq (x 10) (i 0)) (q (s [(6,
 x 10),(5,i 0),(4,.cst (.slice none 0 0))]) .ret) .skip) (q (.cond (b .gtr (x 8) (x 3)) (q (s [(6,i 3),(5,i 0),(4,.cst (.slice none 0 0))]) .ret)
 .skip) (q (q (.hv [(12,x 7)] [] [] (some 13) (.call false) (c3 (.cst (.func (.func 61) #[] #[])) (x 8) (x 3))) (q (h 14 (.bSl [.int .u8 0] 1 [0]) (c1 (x
 13))) (q (h 15 (.app 1 [.int .u8 0]) (c2 (x 12) (x 14))) (s [(7,x 15)])))) (s [(1,x 9)]))))))))) (q (q (.hv [(16,b .lss (x 1) (n1 .len (x 0)))] [] [(b .lss
 (x 1) (n1 .len (x 0)),true)] (some 17) (.call false) (c2 (.cst (.func (.func 34) #[] #[])) (ld (n2 (.iAddr 1) (x 0) (x 1))))) (.cond (p (p (x 16) (n1 (.un
 .not) (x 17)) (.cst (.bool false))) (b .neq (ld (n2 (.iAddr 1) (x 0) (x 1))) (.cst (.int .u8 35))) (.cst (.bool false))) (q (s [(6,i 9),(5,i 0),(4,.cst
 (.slice none 0 0))]) .ret) .skip)) (q (s [(6,i 0),(5,x 1),(4,x 7)]) .ret))))
def cf48:CF:=⟨4,18,[(.var 4),(.var 5),(.var 6)],bd48,.plain⟩
def tr48:List Nat:=[0,1,2,3,8,9,10,11,12,13,14,22,32,35,36,37,43,48]
def bd49:Stm:=
 q (s [(8,i 0),(7,i 0),(6,.cst (.slice none 0 0))]) (q (q (cl 14 34 (c1 (ld (n2 (.iAddr 1) (x 0) (x 1))))) (.cond (n1 (.un .not) (x 14)) (q (s [(8,i 9),
 (7,i 0),(6,.cst (.slice none 0 0))]) .ret) .skip)) (q (s [(1,b .add (x 1) (i 1))]) (q (s [(9,x 2)]) (q (.cond (b .eql (x 5) (i 4)) (s [(9,b .quo (b .add
 (x 2) (i 7)) (i 8))]) .skip) (q (.cond (b .gtr (b .mul (x 9) (x 3)) (b .sub (n1 .len (x 0)) (x 1))) (q (s [(8,i 10),(7,i 0),(6,.cst (.slice none 0 0))])
 .ret) .skip) (q (s [(10,.cst (.slice none 0 0))]) (q (q (s [(11,i 0)]) (.block 0 (.loop (q (.cond (b .lss (x 11) (x 3)) .skip (.exit 0)) (q (.block 1 (q (s
 [(12,i 0)]) (.block 2 (.loop (q (.cond (b .lss (x 12) (x 2)) .skip (.exit 2)) (q (.block 3 (.cond (b .eql (x 5) (i 5)) (q (s [(13,n1 (.cvt .i64) (ld (n2
 (.iAddr 1) (x 0) (b .add (b .add (x 1) (b .mul (x 11) (x 9))) (x 12)))))]) (q (.cond (b .gtr (x 13) (x 4)) (q (s [(8,i 3),(7,i 0),(6,.cst (.slice none 0
 0))]) .ret) .skip) (q (.hv [(15,x 10)] [] [] (some 16) (.call false) (c3 (.cst (.func (.func 61) #[] #[])) (x 13) (x 4))) (q (h 17 (.bSl [.int .u8 0] 1 [0])
 (c1 (x 16))) (q (h 18 (.app 1 [.int .u8 0]) (c2 (x 15) (x 17))) (s [(10,x 18)])))))) (.cond (b .eql (b .rem (b .shr (ld (n2 (.iAddr 1) (x 0) (b .add (b .add
 (x 1) (b .mul (x 11) (x 9))) (b .quo (x 12) (i 8))))) (n1 (.cvt .u64) (b .sub (i 7) (b .rem (x 12) (i 8))))) (.cst (.int .u8 2))) (.cst (.int .u8 1))) (q (.hv
 [(19,x 10)] [] [] (some 20) (.bSl [.int .u8 0] 1 [0]) (c1 (.cst (.int .u8 0)))) (q (h 21 (.app 1 [.int .u8 0]) (c2 (x 19) (x 20))) (s [(10,x 21)]))) (q (.hv
 [(22,x 10)] [] [] (some 23) (.bSl [.int .u8 0] 1 [0]) (c1 (.cst (.int .u8 255)))) (q (h 24 (.app 1 [.int .u8 0]) (c2 (x 22) (x 23))) (s [(10,x 24)])))))) (s
 [(12,b .add (x 12) (i 1))]))))))) (s [(11,b .add (x 11) (i 1))])))))) (q (s [(8,i 0),(7,b .add (x 1) (b .mul (x 9) (x 3))),(6,x 10)]) .ret))))))))
def cf49:CF:=⟨6,25,[(.var 6),(.var 7),(.var 8)],bd49,.plain⟩
def tr49:List Nat:=[0,1,2,3,4,5,12,13,14,15,16,17,18,19,24,68,71,72,73,92,93,94,95,96,97]
def bd50:Stm:=
 q (s [(3,.cst (.slice none 0 0))]) (q (.cond (b .eql (x 2) (i 10)) (q (.cond (b .lss (x 1) (.cst (.int .u64 100))) (q (q (.hv [(6,x 0)] [] [] (some 7) (.call
 false) (c2 (.cst (.func (.func 62) #[] #[])) (n1 (.cvt .i64) (x 1)))) (q (h 8 (.appS [.int .u8 0]) (c2 (x 6) (x 7))) (s [(3,x 8)]))) .ret) .skip) (q (h 4
 (.alloc [.int .u8 0,.int .u8 0,.int .u8 0,.int .u8 0,.int .u8 0,.int .u8 0,.int .u8 0,.int .u8 0,.int .u8 0,.int .u8 0,.int .u8 0,.int .u8 0,.int
 .u8 0,.int .u8 0,.int .u8 0,.int .u8 0,.int .u8 0,.int .u8 0,.int .u8 0,.int .u8 0,.int .u8 0,.int .u8 0,.int .u8 0,.int .u8 0]) .nil) (q (q (cl 9
 63 (c1 (x 1))) (s [(5,x 9)])) (q (.hv [] [] [] none (.call false) (c3 (.cst (.func (.func 64) #[] #[])) (n2 (.slA 24 1 false true false) (x 4) (x 5)) (x 1)))
 (q (q (h 10 (.app 1 [.int .u8 0]) (c2 (x 0) (n2 (.slA 24 1 false true false) (x 4) (x 5)))) (s [(3,x 10)])) .ret))))) .skip) (q (q (cl 11 65 (c (x 0) (c (x
 1) (c3 (x 2) (.cst (.bool false)) (.cst (.bool true)))))) (.sets [(0,ix 0 (x 11))] [ix 1 (x 11)])) (q (s [(3,x 0)]) .ret)))
def cf50:CF:=⟨3,12,[(.var 3)],bd50,.plain⟩
def tr50:List Nat:=[0,1,2,6,7,8,13,16,17,19,27,32]
def bd51:Stm:=
 q (s [(2,.cst (.bool false))]) (q (s [(2,p (p (p (p (b .geq (x 0) (i 1)) (b .leq (x 0) (i 4096)) (.cst (.bool false))) (b .geq (x 1) (i 1)) (.cst (.bool
 false))) (b .leq (x 1) (i 4096)) (.cst (.bool false))) (b .leq (b .mul (x 0) (x 1)) (i 4194304)) (.cst (.bool false)))]) .ret)
def cf51:CF:=⟨2,3,[(.var 2)],bd51,.plain⟩
def tr51:List Nat:=[0,1,4]
def bd52:Stm:=
 q (s [(1,i 0)]) (q (q (cl 3 53 (c1 (x 0))) (.hv [] [] [] none (.call false) (c3 (.cst (.func (.func 41) #[] #[])) (n1 (.un .not) (x 3)) (i 10)))) (q (q (cl 4
 56 (c1 (x 0))) (.hv [] [] [] none (.call false) (c3 (.cst (.func (.func 41) #[] #[])) (x 4) (i 9)))) (q (.hv [] [] [] none (.call false) (c2 (.cst (.func
 (.func 57) #[] #[])) (x 0))) (q (q (cl 5 53 (c1 (x 0))) (.hv [] [] [] none (.call false) (c3 (.cst (.func (.func 41) #[] #[])) (n1 (.un .not) (x 5)) (i 10))))
 (q (q (cl 6 66 (c1 (x 0))) (.hv [] [] [] none (.call false) (c3 (.cst (.func (.func 41) #[] #[])) (x 6) (i 9)))) (q (s [(2,i 0)]) (q (.block 0 (.loop (q (q
 (cl 7 66 (c1 (x 0))) (.cond (x 7) .skip (.exit 0))) (.block 1 (q (s [(2,n2 (.minmax false) (b .add (b .mul (i 10) (x 2)) (n1 (.cvt .i64) (b .sub (ld (n2
 (.iAddr 1) (ld (fa 0 (n1 .nilChk (x 0)))) (ld (fa 1 (n1 .nilChk (x 0)))))) (.cst (.int .u8 48))))) (i 65536))]) (.hv [] [] [] none (.st 1) (c2 (fa 1 (n1
 .nilChk (x 0))) (b .add (ld (fa 1 (n1 .nilChk (x 0)))) (i 1))))))))) (q (s [(1,x 2)]) .ret))))))))
def cf52:CF:=⟨1,8,[(.var 1)],bd52,.plain⟩
def tr52:List Nat:=[0,2,3,5,9,14,18,21]
def bd53:Stm:=
 q (s [(1,.cst (.bool false))]) (q (s [(1,b .geq (ld (fa 1 (n1 .nilChk (x 0)))) (n1 .len (ld (fa 0 (n1 .nilChk (x 0))))))]) .ret)
def cf53:CF:=⟨1,2,[(.var 1)],bd53,.plain⟩
def tr53:List Nat:=[0,2]
def bd54:Stm:=
 q (s [(2,.cst (.slice none 0 0))]) (q (.hv [] [] [] none (.call false) (c3 (.cst (.func (.func 41) #[] #[])) (b .leq (x 1) (b .sub (n1 .len (ld (fa 0 (n1
 .nilChk (x 0))))) (ld (fa 1 (n1 .nilChk (x 0)))))) (i 10))) (q (s [(3,.node (.sl 1 true true false) (c3 (ld (fa 0 (n1 .nilChk (x 0)))) (ld (fa 1 (n1 .nilChk
 (x 0)))) (b .add (ld (fa 1 (n1 .nilChk (x 0)))) (x 1))))]) (q (.hv [] [] [] none (.st 1) (c2 (fa 1 (n1 .nilChk (x 0))) (b .add (ld (fa 1 (n1 .nilChk (x 0))))
 (x 1)))) (q (s [(2,x 3)]) .ret))))
def cf54:CF:=⟨2,4,[(.var 2)],bd54,.plain⟩
def tr54:List Nat:=[0,1,4,5]
def bd55:Stm:=
 q (s [(2,.cst (.int .u8 0))]) (q (s [(2,n1 (.cvt .u8) (b .quo (b .add (b .mul (i 255) (x 0)) (b .quo (x 1) (i 2))) (x 1)))]) .ret)
def cf55:CF:=⟨2,3,[(.var 2)],bd55,.plain⟩
def tr55:List Nat:=[0,1,4]
def bd56:Stm:=
 q (s [(1,.cst (.bool false))]) (q (q (h 2 .callC (c2 (.cst (.func (.func 32) #[] #[])) (ld (n2 (.iAddr 1) (ld (fa 0 (n1 .nilChk (x 0)))) (ld (fa 1 (n1 .nilChk
 (x 0)))))))) (s [(1,p (x 2) (.cst (.bool true)) (b .eql (ld (n2 (.iAddr 1) (ld (fa 0 (n1 .nilChk (x 0)))) (ld (fa 1 (n1 .nilChk (x 0)))))) (.cst (.int .u8
 35))))])) .ret)
def cf56:CF:=⟨1,3,[(.var 1)],bd56,.plain⟩
def tr56:List Nat:=[0,2,13]
def bd57:Stm:=
 .block 0 (.loop (q (q (cl 1 53 (c1 (x 0))) (q (.hv [(2,n1 (.un .not) (x 1))] [] [(n1 (.un .not) (x 1),true)] (some 3) (.call false) (c2 (.cst (.func (.func
 56) #[] #[])) (x 0))) (.cond (p (x 2) (x 3) (.cst (.bool false))) .skip (.exit 0)))) (.block 1 (q (.cond (b .eql (ld (n2 (.iAddr 1) (ld (fa 0 (n1 .nilChk (x
 0)))) (ld (fa 1 (n1 .nilChk (x 0)))))) (.cst (.int .u8 35))) (q (.block 2 (.loop (q (q (h 4 .callC (c2 (.cst (.func (.func 53) #[] #[])) (x 0))) (.cond (p (p
 (n1 (.un .not) (x 4)) (b .neq (ld (n2 (.iAddr 1) (ld (fa 0 (n1 .nilChk (x 0)))) (ld (fa 1 (n1 .nilChk (x 0)))))) (.cst (.int .u8 10))) (.cst (.bool false)))
 (b .neq (ld (n2 (.iAddr 1) (ld (fa 0 (n1 .nilChk (x 0)))) (ld (fa 1 (n1 .nilChk (x 0)))))) (.cst (.int .u8 13))) (.cst (.bool false))) .skip (.exit 2)))
 (.block 3 (.hv [] [] [] none (.st 1) (c2 (fa 1 (n1 .nilChk (x 0))) (b .add (ld (fa 1 (n1 .nilChk (x 0)))) (i 1)))))))) (.exit 1)) .skip) (.hv [] [] [] none
 (.st 1) (c2 (fa 1 (n1 .nilChk (x 0))) (b .add (ld (fa 1 (n1 .nilChk (x 0)))) (i 1))))))))
def cf57:CF:=⟨1,5,[],bd57,.plain⟩
def tr57:List Nat:=[0,3,5,7,21]
def bd58:Stm:=
 q (s [(4,i 0),(3,i 0),(2,i 0)]) (q (q (cl 8 60 (c2 (x 0) (x 1))) (s [(7,ix 2 (x 8)),(6,ix 1 (x 8)),(5,ix 0 (x 8))])) (q (.cond (b .neq (x 7) (i 0)) (q
 (s [(4,x 7),(3,i 0),(2,i 0)]) .ret) .skip) (q (.cond (b .eql (x 6) (n1 .len (x 0))) (q (s [(4,i 10),(3,i 0),(2,i 0)]) .ret) .skip) (q (.cond (b .gtr
 (x 5) (i 65535)) (q (s [(4,i 3),(3,i 0),(2,i 0)]) .ret) .skip) (q (s [(4,i 0),(3,x 6),(2,x 5)]) .ret)))))
def cf58:CF:=⟨2,9,[(.var 2),(.var 3),(.var 4)],bd58,.plain⟩
def tr58:List Nat:=[0,1,4,5,6,7,8,9,13]
def bd59:Stm:=
 q (s [(2,i 0)]) (q (.block 0 (.loop (q (q (.hv [(3,b .lss (x 1) (n1 .len (x 0)))] [] [(b .lss (x 1) (n1 .len (x 0)),true)] (some 4) (.call false) (c2 (.cst
 (.func (.func 34) #[] #[])) (ld (n2 (.iAddr 1) (x 0) (x 1))))) (.cond (p (x 3) (p (x 4) (.cst (.bool true)) (b .eql (ld (n2 (.iAddr 1) (x 0) (x 1))) (.cst
 (.int .u8 35)))) (.cst (.bool false))) .skip (.exit 0))) (.block 1 (.cond (b .eql (ld (n2 (.iAddr 1) (x 0) (x 1))) (.cst (.int .u8 35))) (.block 2 (.loop (q
 (.cond (p (p (b .lss (x 1) (n1 .len (x 0))) (b .neq (ld (n2 (.iAddr 1) (x 0) (x 1))) (.cst (.int .u8 10))) (.cst (.bool false))) (b .neq (ld (n2 (.iAddr 1) (x
 0) (x 1))) (.cst (.int .u8 13))) (.cst (.bool false))) .skip (.exit 2)) (.block 3 (s [(1,b .add (x 1) (i 1))]))))) (s [(1,b .add (x 1) (i 1))])))))) (q (s
 [(2,x 1)]) .ret))
def cf59:CF:=⟨2,5,[(.var 2)],bd59,.plain⟩
def tr59:List Nat:=[0,1,4,9,14]
def bd60:Stm:=
 q (s [(4,i 0),(3,i 0),(2,i 0)]) (q (.cond (b .eql (x 1) (n1 .len (x 0))) (q (s [(4,i 10),(3,i 0),(2,i 0)]) .ret) .skip) (q (q (cl 6 34 (c1 (ld (n2
 (.iAddr 1) (x 0) (x 1))))) (.cond (p (n1 (.un .not) (x 6)) (b .neq (ld (n2 (.iAddr 1) (x 0) (x 1))) (.cst (.int .u8 35))) (.cst (.bool false))) (q (s [(4,i
 9),(3,i 0),(2,i 0)]) .ret) .skip)) (q (q (cl 7 59 (c2 (x 0) (x 1))) (s [(1,x 7)])) (q (.cond (b .eql (x 1) (n1 .len (x 0))) (q (s [(4,i 10),(3,i 0),
 (2,i 0)]) .ret) .skip) (q (q (cl 8 67 (c1 (ld (n2 (.iAddr 1) (x 0) (x 1))))) (.cond (n1 (.un .not) (x 8)) (q (s [(4,i 9),(3,i 0),(2,i 0)]) .ret) .skip))
 (q (s [(5,i 0)]) (q (.block 0 (.loop (q (q (.hv [(9,b .lss (x 1) (n1 .len (x 0)))] [] [(b .lss (x 1) (n1 .len (x 0)),true)] (some 10) (.call false) (c2
 (.cst (.func (.func 67) #[] #[])) (ld (n2 (.iAddr 1) (x 0) (x 1))))) (.cond (p (x 9) (x 10) (.cst (.bool false))) .skip (.exit 0))) (.block 1 (q (s [(5,n2
 (.minmax false) (i 65536) (b .add (b .mul (i 10) (x 5)) (n1 (.cvt .i64) (b .sub (ld (n2 (.iAddr 1) (x 0) (x 1))) (.cst (.int .u8 48))))))]) (s [(1,b .add (x
 1) (i 1))])))))) (q (s [(4,i 0),(3,x 1),(2,x 5)]) .ret))))))))
def cf60:CF:=⟨2,11,[(.var 2),(.var 3),(.var 4)],bd60,.plain⟩
def tr60:List Nat:=[0,1,4,5,6,7,16,27,36,42,47]
def bd61:Stm:=
 q (s [(2,.cst (.int .u8 0))]) (q (s [(2,n1 (.cvt .u8) (b .quo (b .add (b .mul (i 255) (x 0)) (b .quo (x 1) (i 2))) (x 1)))]) .ret)
def cf61:CF:=⟨2,3,[(.var 2)],bd61,.plain⟩
def tr61:List Nat:=[0,1,4]
def bd62:Stm:=
 q (s [(1,.cst (.string ⟨ #[] ⟩))]) (q (.cond (b .lss (x 0) (i 10)) (q (s [(1,.node (.slS true true) (c3 (.cst (.string lit1)) (x 0) (b .add (x 0) (i 1))))])
 .ret) .skip) (q (s [(1,.node (.slS true true) (c3 (.cst (.string lit2)) (b .mul (x 0) (i 2)) (b .add (b .mul (x 0) (i 2)) (i 2))))]) .ret))
def cf62:CF:=⟨1,2,[(.var 1)],bd62,.plain⟩
def tr62:List Nat:=[0,2]
def bd63:Stm:=
 q (s [(1,i 0)]) (q (q (cl 3 69 (c1 (x 0))) (q (cl 4 68 (c1 (x 3))) (s [(2,x 4)]))) (q (q (.hv [(5,x 2)] [] [] (some 6) (.call false) (c2 (.cst (.func (.func
 70) #[] #[])) (b .geq (x 0) (ld (n2 (.iAddrA 20 1) (.cst (.pointer (some ⟨0,0,none⟩))) (x 2)))))) (s [(1,b .add (x 5) (x 6))])) .ret))
def cf63:CF:=⟨1,7,[(.var 1)],bd63,.plain⟩
def tr63:List Nat:=[0,2,3,5,6,7,13]
def bd64:Stm:=
 q (s [(2,n1 .len (x 0))]) (q (.block 0 (.loop (q (.cond (b .geq (x 2) (i 8)) .skip (.exit 0)) (.block 1 (q (s [(3,n1 (.cvt .u32) (b .rem (x 1) (.cst (.int
 .u64 100000000))))]) (q (s [(1,b .quo (x 1) (.cst (.int .u64 100000000)))]) (q (s [(5,b .rem (x 3) (.cst (.int .u32 10000))),(4,b .quo (x 3) (.cst (.int
 .u32 10000)))]) (q (s [(7,b .mul (b .rem (x 5) (.cst (.int .u32 100))) (.cst (.int .u32 2))),(6,b .mul (b .quo (x 5) (.cst (.int .u32 100))) (.cst (.int
 .u32 2)))]) (q (s [(9,b .mul (b .rem (x 4) (.cst (.int .u32 100))) (.cst (.int .u32 2))),(8,b .mul (b .quo (x 4) (.cst (.int .u32 100))) (.cst (.int .u32
 2)))]) (q (q (.hv [(17,n2 .idxS (.cst (.string lit2)) (x 7)),(16,b .sub (x 2) (i 2)),(15,x 0)] [] [] none (.st 1) (c2 (n2 (.iAddr 1) (x 0) (b .sub (x 2)
 (i 1))) (n2 .idxS (.cst (.string lit2)) (b .add (x 7) (.cst (.int .u32 1)))))) (.hv [] [] [] none (.st 1) (c2 (n2 (.iAddr 1) (x 15) (x 16)) (x 17)))) (q (q
 (.hv [(20,n2 .idxS (.cst (.string lit2)) (x 6)),(19,b .sub (x 2) (i 4)),(18,x 0)] [] [] none (.st 1) (c2 (n2 (.iAddr 1) (x 0) (b .sub (x 2) (i 3))) (n2
 .idxS (.cst (.string lit2)) (b .add (x 6) (.cst (.int .u32 1)))))) (.hv [] [] [] none (.st 1) (c2 (n2 (.iAddr 1) (x 18) (x 19)) (x 20)))) (q (q (.hv [(23,n2
 .idxS (.cst (.string lit2)) (x 9)),(22,b .sub (x 2) (i 6)),(21,x 0)] [] [] none (.st 1) (c2 (n2 (.iAddr 1) (x 0) (b .sub (x 2) (i 5))) (n2 .idxS (.cst
 (.string lit2)) (b .add (x 9) (.cst (.int .u32 1)))))) (.hv [] [] [] none (.st 1) (c2 (n2 (.iAddr 1) (x 21) (x 22)) (x 23)))) (q (q (.hv [(26,n2 .idxS (.cst
 (.string lit2)) (x 8)),(25,b .sub (x 2) (i 8)),(24,x 0)] [] [] none (.st 1) (c2 (n2 (.iAddr 1) (x 0) (b .sub (x 2) (i 7))) (n2 .idxS (.cst (.string lit2))
 (b .add (x 8) (.cst (.int .u32 1)))))) (.hv [] [] [] none (.st 1) (c2 (n2 (.iAddr 1) (x 24) (x 25)) (x 26)))) (s [(2,b .sub (x 2) (i 8))])))))))))))))) (q (s
 [(10,n1 (.cvt .u32) (x 1))]) (q (.cond (b .geq (x 2) (i 4)) (q (s [(11,b .rem (x 10) (.cst (.int .u32 10000)))]) (q (s [(10,b .quo (x 10) (.cst (.int .u32
 10000)))]) (q (s [(13,b .mul (b .rem (x 11) (.cst (.int .u32 100))) (.cst (.int .u32 2))),(12,b .mul (b .quo (x 11) (.cst (.int .u32 100))) (.cst (.int
 .u32 2)))]) (q (q (.hv [(29,n2 .idxS (.cst (.string lit2)) (x 13)),(28,b .sub (x 2) (i 2)),(27,x 0)] [] [] none (.st 1) (c2 (n2 (.iAddr 1) (x 0) (b .sub
 (x 2) (i 1))) (n2 .idxS (.cst (.string lit2)) (b .add (x 13) (.cst (.int .u32 1)))))) (.hv [] [] [] none (.st 1) (c2 (n2 (.iAddr 1) (x 27) (x 28)) (x 29))))
 (q (q (.hv [(32,n2 .idxS (.cst (.string lit2)) (x 12)),(31,b .sub (x 2) (i 4)),(30,x 0)] [] [] none (.st 1) (c2 (n2 (.iAddr 1) (x 0) (b .sub (x 2) (i
 3))) (n2 .idxS (.cst (.string lit2)) (b .add (x 12) (.cst (.int .u32 1)))))) (.hv [] [] [] none (.st 1) (c2 (n2 (.iAddr 1) (x 30) (x 31)) (x 32)))) (s [(2,b
 .sub (x 2) (i 4))])))))) .skip) (q (.cond (b .geq (x 2) (i 2)) (q (s [(14,b .mul (b .rem (x 10) (.cst (.int .u32 100))) (.cst (.int .u32 2)))]) (q (s [(10,b
 .quo (x 10) (.cst (.int .u32 100)))]) (q (q (.hv [(35,n2 .idxS (.cst (.string lit2)) (x 14)),(34,b .sub (x 2) (i 2)),(33,x 0)] [] [] none (.st 1) (c2 (n2
 (.iAddr 1) (x 0) (b .sub (x 2) (i 1))) (n2 .idxS (.cst (.string lit2)) (b .add (x 14) (.cst (.int .u32 1)))))) (.hv [] [] [] none (.st 1) (c2 (n2 (.iAddr 1)
 (x 33) (x 34)) (x 35)))) (s [(2,b .sub (x 2) (i 2))])))) .skip) (.cond (b .gtr (x 2) (i 0)) (.hv [] [] [] none (.st 1) (c2 (n2 (.iAddr 1) (x 0) (i 0)) (n1
 (.cvt .u8) (b .add (.cst (.int .u32 48)) (x 10))))) .skip)))))
def cf64:CF:=⟨2,36,[],bd64,.plain⟩
def tr64:List Nat:=[0,1,4,5,6,7,8,9,10,11,12,13,14,15,16,45,47,52,58,60,65,71,73,78,84,86,91,113,115,120,126,128,133,148,150,155]
def bd65:Stm:=
 q (s [(6,.cst (.string ⟨ #[] ⟩)),(5,.cst (.slice none 0 0))]) (q (.cond (p (p (b .lss (x 2) (i 2)) (.cst (.bool true)) (b .eql (x 2) (i 10))) (.cst (.bool
 true)) (b .gtr (x 2) (i 36))) (.hv [] [] [] none .pan (c1 (n1 (.mkI 9) (.cst (.string lit3))))) .skip) (q (h 7 (.alloc [.int .u8 0,.int .u8 0,.int .u8 0,
 .int .u8 0,.int .u8 0,.int .u8 0,.int .u8 0,.int .u8 0,.int .u8 0,.int .u8 0,.int .u8 0,.int .u8 0,.int .u8 0,.int .u8 0,.int .u8 0,.int .u8 0,
 .int .u8 0,.int .u8 0,.int .u8 0,.int .u8 0,.int .u8 0,.int .u8 0,.int .u8 0,.int .u8 0,.int .u8 0,.int .u8 0,.int .u8 0,.int .u8 0,.int .u8 0,
 .int .u8 0,.int .u8 0,.int .u8 0,.int .u8 0,.int .u8 0,.int .u8 0,.int .u8 0,.int .u8 0,.int .u8 0,.int .u8 0,.int .u8 0,.int .u8 0,.int .u8 0,
 .int .u8 0,.int .u8 0,.int .u8 0,.int .u8 0,.int .u8 0,.int .u8 0,.int .u8 0,.int .u8 0,.int .u8 0,.int .u8 0,.int .u8 0,.int .u8 0,.int .u8 0,
 .int .u8 0,.int .u8 0,.int .u8 0,.int .u8 0,.int .u8 0,.int .u8 0,.int .u8 0,.int .u8 0,.int .u8 0,.int .u8 0]) .nil) (q (s [(8,i 65)]) (q (.cond (x
 3) (s [(1,n1 (.un .neg) (x 1))]) .skip) (q (q (cl 14 71 (c1 (x 2))) (.cond (x 14) (q (q (cl 15 72 (c1 (n1 (.cvt .u64) (x 2)))) (s [(9,n1 (.cvt .u64) (x
 15))])) (q (s [(10,n1 (.cvt .u64) (x 2))]) (q (s [(11,b .sub (n1 (.cvt .u64) (x 2)) (.cst (.int .u64 1)))]) (q (.block 0 (.loop (q (.cond (b .geq (x 1) (x
 10)) .skip (.exit 0)) (.block 1 (q (s [(8,b .sub (x 8) (i 1))]) (q (.hv [] [] [] none (.st 1) (c2 (n2 (.iAddrA 65 1) (x 7) (x 8)) (n2 .idxS (.cst (.string
 lit1)) (b .and (x 1) (x 11))))) (s [(1,b .shr (x 1) (x 9))]))))))) (q (s [(8,b .sub (x 8) (i 1))]) (.hv [] [] [] none (.st 1) (c2 (n2 (.iAddrA 65 1) (x 7)
 (x 8)) (n2 .idxS (.cst (.string lit1)) (x 1))))))))) (q (s [(12,n1 (.cvt .u64) (x 2))]) (q (.block 2 (.loop (q (.cond (b .geq (x 1) (x 12)) .skip (.exit 2))
 (.block 3 (q (s [(8,b .sub (x 8) (i 1))]) (q (s [(13,b .quo (x 1) (x 12))]) (q (.hv [] [] [] none (.st 1) (c2 (n2 (.iAddrA 65 1) (x 7) (x 8)) (n2 .idxS
 (.cst (.string lit1)) (b .sub (x 1) (b .mul (x 13) (x 12)))))) (s [(1,x 13)])))))))) (q (s [(8,b .sub (x 8) (i 1))]) (.hv [] [] [] none (.st 1) (c2 (n2
 (.iAddrA 65 1) (x 7) (x 8)) (n2 .idxS (.cst (.string lit1)) (x 1))))))))) (q (.cond (x 3) (q (s [(8,b .sub (x 8) (i 1))]) (.hv [] [] [] none (.st 1) (c2 (n2
 (.iAddrA 65 1) (x 7) (x 8)) (.cst (.int .u8 45))))) .skip) (q (.cond (x 4) (q (q (h 16 (.app 1 [.int .u8 0]) (c2 (x 0) (n2 (.slA 65 1 true false false) (x 7)
 (x 8)))) (s [(5,x 16)])) .ret) .skip) (q (s [(6,n1 .b2s (n2 (.slA 65 1 true false false) (x 7) (x 8)))]) .ret))))))))
def cf65:CF:=⟨5,17,[(.var 5),(.var 6)],bd65,.plain⟩
def tr65:List Nat:=[0,1,2,3,4,10,11,12,13,14,15,16,17,18,34,37,98]
def bd66:Stm:=
 q (s [(1,.cst (.bool false))]) (q (q (h 2 .callC (c2 (.cst (.func (.func 53) #[] #[])) (x 0))) (s [(1,p (p (n1 (.un .not) (x 2)) (b .geq (ld (n2 (.iAddr 1)
 (ld (fa 0 (n1 .nilChk (x 0)))) (ld (fa 1 (n1 .nilChk (x 0)))))) (.cst (.int .u8 48))) (.cst (.bool false))) (b .leq (ld (n2 (.iAddr 1) (ld (fa 0 (n1 .nilChk
 (x 0)))) (ld (fa 1 (n1 .nilChk (x 0)))))) (.cst (.int .u8 57))) (.cst (.bool false)))])) .ret)
def cf66:CF:=⟨1,3,[(.var 1)],bd66,.plain⟩
def tr66:List Nat:=[0,2,4]
def bd67:Stm:=
 q (s [(1,.cst (.bool false))]) (q (s [(1,p (b .geq (x 0) (.cst (.int .u8 48))) (b .leq (x 0) (.cst (.int .u8 57))) (.cst (.bool false)))]) .ret)
def cf67:CF:=⟨1,2,[(.var 1)],bd67,.plain⟩
def tr67:List Nat:=[0,2]
def bd68:Stm:=
 q (s [(1,i 0)]) (q (s [(1,b .shr (b .mul (x 0) (i 78913)) (.cst (.int .u64 18)))]) .ret)
def cf68:CF:=⟨1,2,[(.var 1)],bd68,.plain⟩
def tr68:List Nat:=[0,2]
def bd69:Stm:=
 q (s [(1,i 0)]) (q (.cond (b .geq (x 0) (.cst (.int .u64 4294967296))) (q (s [(0,b .shr (x 0) (.cst (.int .u64 32)))]) (s [(1,i 32)])) .skip) (q (.cond (b
 .geq (x 0) (.cst (.int .u64 65536))) (q (s [(0,b .shr (x 0) (.cst (.int .u64 16)))]) (s [(1,b .add (x 1) (i 16))])) .skip) (q (.cond (b .geq (x 0) (.cst
 (.int .u64 256))) (q (s [(0,b .shr (x 0) (.cst (.int .u64 8)))]) (s [(1,b .add (x 1) (i 8))])) .skip) (q (s [(1,b .add (x 1) (n1 (.cvt .i64) (n2 .idxS
 (.cst (.string lit0)) (n1 (.cvt .u8) (x 0)))))]) .ret))))
def cf69:CF:=⟨1,2,[(.var 1)],bd69,.plain⟩
def tr69:List Nat:=[0,2]
def bd70:Stm:=
 q (s [(1,i 0)]) (q (.cond (x 0) (q (s [(1,i 1)]) .ret) .skip) (q (s [(1,i 0)]) .ret))
def cf70:CF:=⟨1,2,[(.var 1)],bd70,.plain⟩
def tr70:List Nat:=[0,2]
def bd71:Stm:=
 q (s [(1,.cst (.bool false))]) (q (s [(1,b .eql (b .and (x 0) (b .sub (x 0) (i 1))) (i 0))]) .ret)
def cf71:CF:=⟨1,2,[(.var 1)],bd71,.plain⟩
def tr71:List Nat:=[0,2]
def bd72:Stm:=
 q (q (s [(1,i 0)]) (.cond (.cst (.bool false)) (q (q (cl 2 73 (c1 (n1 (.cvt .u32) (x 0)))) (s [(1,x 2)])) .ret) .skip)) (q (q (cl 3 74 (c1 (x 0))) (s [(1,x
 3)])) .ret)
def cf72:CF:=⟨1,4,[(.var 1)],bd72,.plain⟩
def tr72:List Nat:=[0,2,5,7]
def bd73:Stm:=
 q (s [(1,i 0)]) (q (.cond (b .eql (x 0) (.cst (.int .u32 0))) (q (s [(1,i 32)]) .ret) .skip) (q (s [(1,n1 (.cvt .i64) (ld (n2 (.iAddrA 32 1) (.cst (.pointer
 (some ⟨1,0,none⟩))) (b .shr (b .mul (b .and (x 0) (n1 (.un .neg) (x 0))) (.cst (.int .u32 125613361))) (.cst (.int .u64 27))))))]) .ret))
def cf73:CF:=⟨1,2,[(.var 1)],bd73,.plain⟩
def tr73:List Nat:=[0,2]
def bd74:Stm:=
 q (s [(1,i 0)]) (q (.cond (b .eql (x 0) (.cst (.int .u64 0))) (q (s [(1,i 64)]) .ret) .skip) (q (s [(1,n1 (.cvt .i64) (ld (n2 (.iAddrA 64 1) (.cst (.pointer
 (some ⟨2,0,none⟩))) (b .shr (b .mul (b .and (x 0) (n1 (.un .neg) (x 0))) (.cst (.int .u64 285870213051353865))) (.cst (.int .u64 58))))))]) .ret))
def cf74:CF:=⟨1,2,[(.var 1)],bd74,.plain⟩
def tr74:List Nat:=[0,2]
def bd96:Stm:=
 q (.hv [] [] [] none (.st 32) (c2 (.cst (.pointer (some ⟨1,0,none⟩))) (.node (.build [.int .u8 0,.int .u8 0,.int .u8 0,.int .u8 0,.int .u8 0,.int .u8 0,
 .int .u8 0,.int .u8 0,.int .u8 0,.int .u8 0,.int .u8 0,.int .u8 0,.int .u8 0,.int .u8 0,.int .u8 0,.int .u8 0,.int .u8 0,.int .u8 0,.int .u8 0,
 .int .u8 0,.int .u8 0,.int .u8 0,.int .u8 0,.int .u8 0,.int .u8 0,.int .u8 0,.int .u8 0,.int .u8 0,.int .u8 0,.int .u8 0,.int .u8 0,.int .u8 0]
 [(0,1),(1,1),(2,1),(3,1),(4,1),(5,1),(6,1),(7,1),(8,1),(9,1),(10,1),(11,1),(12,1),(13,1),(14,1),(15,1),(16,1),(17,1),(18,
 1),(19,1),(20,1),(21,1),(22,1),(23,1),(24,1),(25,1),(26,1),(27,1),(28,1),(29,1),(30,1),(31,1)]) (c (.cst (.int .u8 0)) (c (.cst
 (.int .u8 1)) (c (.cst (.int .u8 28)) (c (.cst (.int .u8 2)) (c (.cst (.int .u8 29)) (c (.cst (.int .u8 14)) (c (.cst (.int .u8 24)) (c (.cst (.int .u8 3)) (c
 (.cst (.int .u8 30)) (c (.cst (.int .u8 22)) (c (.cst (.int .u8 20)) (c (.cst (.int .u8 15)) (c (.cst (.int .u8 25)) (c (.cst (.int .u8 17)) (c (.cst (.int
 .u8 4)) (c (.cst (.int .u8 8)) (c (.cst (.int .u8 31)) (c (.cst (.int .u8 27)) (c (.cst (.int .u8 13)) (c (.cst (.int .u8 23)) (c (.cst (.int .u8 21)) (c
 (.cst (.int .u8 19)) (c (.cst (.int .u8 16)) (c (.cst (.int .u8 7)) (c (.cst (.int .u8 26)) (c (.cst (.int .u8 12)) (c (.cst (.int .u8 18)) (c (.cst (.int .u8
 6)) (c (.cst (.int .u8 11)) (c3 (.cst (.int .u8 5)) (.cst (.int .u8 10)) (.cst (.int .u8 9))))))))))))))))))))))))))))))))))) (q (.hv [] [] [] none (.st 64)
 (c2 (.cst (.pointer (some ⟨2,0,none⟩))) (.node (.build [.int .u8 0,.int .u8 0,.int .u8 0,.int .u8 0,.int .u8 0,.int .u8 0,.int .u8 0,.int .u8 0,.int
 .u8 0,.int .u8 0,.int .u8 0,.int .u8 0,.int .u8 0,.int .u8 0,.int .u8 0,.int .u8 0,.int .u8 0,.int .u8 0,.int .u8 0,.int .u8 0,.int .u8 0,.int
 .u8 0,.int .u8 0,.int .u8 0,.int .u8 0,.int .u8 0,.int .u8 0,.int .u8 0,.int .u8 0,.int .u8 0,.int .u8 0,.int .u8 0,.int .u8 0,.int .u8 0,.int
 .u8 0,.int .u8 0,.int .u8 0,.int .u8 0,.int .u8 0,.int .u8 0,.int .u8 0,.int .u8 0,.int .u8 0,.int .u8 0,.int .u8 0,.int .u8 0,.int .u8 0,.int
 .u8 0,.int .u8 0,.int .u8 0,.int .u8 0,.int .u8 0,.int .u8 0,.int .u8 0,.int .u8 0,.int .u8 0,.int .u8 0,.int .u8 0,.int .u8 0,.int .u8 0,.int
 .u8 0,.int .u8 0,.int .u8 0,.int .u8 0] [(0,1),(1,1),(2,1),(3,1),(4,1),(5,1),(6,1),(7,1),(8,1),(9,1),(10,1),(11,1),(12,1),(13,
 1),(14,1),(15,1),(16,1),(17,1),(18,1),(19,1),(20,1),(21,1),(22,1),(23,1),(24,1),(25,1),(26,1),(27,1),(28,1),(29,1),(30,1),
 (31,1),(32,1),(33,1),(34,1),(35,1),(36,1),(37,1),(38,1),(39,1),(40,1),(41,1),(42,1),(43,1),(44,1),(45,1),(46,1),(47,1),(48,
 1),(49,1),(50,1),(51,1),(52,1),(53,1),(54,1),(55,1),(56,1),(57,1),(58,1),(59,1),(60,1),(61,1),(62,1),(63,1)]) (c (.cst (.int .u8
 0)) (c (.cst (.int .u8 1)) (c (.cst (.int .u8 56)) (c (.cst (.int .u8 2)) (c (.cst (.int .u8 57)) (c (.cst (.int .u8 49)) (c (.cst (.int .u8 28)) (c (.cst
 (.int .u8 3)) (c (.cst (.int .u8 61)) (c (.cst (.int .u8 58)) (c (.cst (.int .u8 42)) (c (.cst (.int .u8 50)) (c (.cst (.int .u8 38)) (c (.cst (.int .u8 29))
 (c (.cst (.int .u8 17)) (c (.cst (.int .u8 4)) (c (.cst (.int .u8 62)) (c (.cst (.int .u8 47)) (c (.cst (.int .u8 59)) (c (.cst (.int .u8 36)) (c (.cst (.int
 .u8 45)) (c (.cst (.int .u8 43)) (c (.cst (.int .u8 51)) (c (.cst (.int .u8 22)) (c (.cst (.int .u8 53)) (c (.cst (.int .u8 39)) (c (.cst (.int .u8 33)) (c
 (.cst (.int .u8 30)) (c (.cst (.int .u8 24)) (c (.cst (.int .u8 18)) (c (.cst (.int .u8 12)) (c (.cst (.int .u8 5)) (c (.cst (.int .u8 63)) (c (.cst (.int .u8
 55)) (c (.cst (.int .u8 48)) (c (.cst (.int .u8 27)) (c (.cst (.int .u8 60)) (c (.cst (.int .u8 41)) (c (.cst (.int .u8 37)) (c (.cst (.int .u8 16)) (c (.cst
 (.int .u8 46)) (c (.cst (.int .u8 35)) (c (.cst (.int .u8 44)) (c (.cst (.int .u8 21)) (c (.cst (.int .u8 52)) (c (.cst (.int .u8 32)) (c (.cst (.int .u8 23))
 (c (.cst (.int .u8 11)) (c (.cst (.int .u8 54)) (c (.cst (.int .u8 26)) (c (.cst (.int .u8 40)) (c (.cst (.int .u8 15)) (c (.cst (.int .u8 34)) (c (.cst (.int
 .u8 20)) (c (.cst (.int .u8 31)) (c (.cst (.int .u8 10)) (c (.cst (.int .u8 25)) (c (.cst (.int .u8 14)) (c (.cst (.int .u8 19)) (c (.cst (.int .u8 9)) (c
 (.cst (.int .u8 13)) (c3 (.cst (.int .u8 8)) (.cst (.int .u8 7)) (.cst (.int .u8 6))))))))))))))))))))))))))))))))))))))))))))))))))))))))))))))))))) (.hv []
 [] [] none (.st 20) (c2 (.cst (.pointer (some ⟨0,0,none⟩))) (.node (.build [.int .u64 0,.int .u64 0,.int .u64 0,.int .u64 0,.int .u64 0,.int .u64 0,
 .int .u64 0,.int .u64 0,.int .u64 0,.int .u64 0,.int .u64 0,.int .u64 0,.int .u64 0,.int .u64 0,.int .u64 0,.int .u64 0,.int .u64 0,.int .u64 0,
 .int .u64 0,.int .u64 0] [(0,1),(1,1),(2,1),(3,1),(4,1),(5,1),(6,1),(7,1),(8,1),(9,1),(10,1),(11,1),(12,1),(13,1),(14,1),(15,
 1),(16,1),(17,1),(18,1),(19,1)]) (c (.cst (.int .u64 1)) (c (.cst (.int .u64 10)) (c (.cst (.int .u64 100)) (c (.cst (.int .u64 1000)) (c (.cst (.int
 .u64 10000)) (c (.cst (.int .u64 100000)) (c (.cst (.int .u64 1000000)) (c (.cst (.int .u64 10000000)) (c (.cst (.int .u64 100000000)) (c (.cst (.int .u64
 1000000000)) (c (.cst (.int .u64 10000000000)) (c (.cst (.int .u64 100000000000)) (c (.cst (.int .u64 1000000000000)) (c (.cst (.int .u64 10000000000000)) (c
 (.cst (.int .u64 100000000000000)) (c (.cst (.int .u64 1000000000000000)) (c (.cst (.int .u64 10000000000000000)) (c3 (.cst (.int .u64 100000000000000000))
 (.cst (.int .u64 1000000000000000000)) (.cst (.int .u64 10000000000000000000))))))))))))))))))))))))
def cf96:CF:=⟨0,0,[],bd96,.plain⟩
def tr96:List Nat:=[]
end
theorem is2:compFunc Tryd.prog tr2 2=some cf2:=by kernel_rfl
theorem is3:compFunc Tryd.prog tr3 3=some cf3:=by kernel_rfl
theorem is4:compFunc Tryd.prog tr4 4=some cf4:=by kernel_rfl
theorem is5:compFunc Tryd.prog tr5 5=some cf5:=by kernel_rfl
theorem is6:compFunc Tryd.prog tr6 6=some cf6:=by kernel_rfl
theorem is7:compFunc Tryd.prog tr7 7=some cf7:=by kernel_rfl
theorem is8:compFunc Tryd.prog tr8 8=some cf8:=by kernel_rfl
theorem is9:compFunc Tryd.prog tr9 9=some cf9:=by kernel_rfl
theorem is10:compFunc Tryd.prog tr10 10=some cf10:=by kernel_rfl
theorem is11:compFunc Tryd.prog tr11 11=some cf11:=by kernel_rfl
theorem is12:compFunc Tryd.prog tr12 12=some cf12:=by kernel_rfl
theorem is13:compFunc Tryd.prog tr13 13=some cf13:=by kernel_rfl
theorem is14:compFunc Tryd.prog tr14 14=some cf14:=by kernel_rfl
theorem is15:compFunc Tryd.prog tr15 15=some cf15:=by kernel_rfl
theorem is16:compFunc Tryd.prog tr16 16=some cf16:=by kernel_rfl
theorem is17:compFunc Tryd.prog tr17 17=some cf17:=by kernel_rfl
theorem is18:compFunc Tryd.prog tr18 18=some cf18:=by kernel_rfl
theorem is19:compFunc Tryd.prog tr19 19=some cf19:=by kernel_rfl
theorem is20:compFunc Tryd.prog tr20 20=some cf20:=by kernel_rfl
theorem is21:compFunc Tryd.prog tr21 21=some cf21:=by kernel_rfl
theorem is22:compFunc Tryd.prog tr22 22=some cf22:=by kernel_rfl
theorem is23:compFunc Tryd.prog tr23 23=some cf23:=by kernel_rfl
theorem is24:compFunc Tryd.prog tr24 24=some cf24:=by kernel_rfl
theorem is25:compFunc Tryd.prog tr25 25=some cf25:=by kernel_rfl
theorem is26:compFunc Tryd.prog tr26 26=some cf26:=by kernel_rfl
theorem is27:compFunc Tryd.prog tr27 27=some cf27:=by kernel_rfl
theorem is28:compFunc Tryd.prog tr28 28=some cf28:=by kernel_rfl
theorem is29:compFunc Tryd.prog tr29 29=some cf29:=by kernel_rfl
theorem is30:compFunc Tryd.prog tr30 30=some cf30:=by kernel_rfl
theorem is31:compFunc Tryd.prog tr31 31=some cf31:=by kernel_rfl
theorem is32:compFunc Tryd.prog tr32 32=some cf32:=by kernel_rfl
theorem is33:compFunc Tryd.prog tr33 33=some cf33:=by kernel_rfl
theorem is34:compFunc Tryd.prog tr34 34=some cf34:=by kernel_rfl
theorem is35:compFunc Tryd.prog tr35 35=some cf35:=by kernel_rfl
theorem is36:compFunc Tryd.prog tr36 36=some cf36:=by kernel_rfl
theorem is37:compFunc Tryd.prog tr37 37=some cf37:=by kernel_rfl
theorem is38:compFunc Tryd.prog tr38 38=some cf38:=by kernel_rfl
theorem is39:compFunc Tryd.prog tr39 39=some cf39:=by kernel_rfl
theorem is40:compFunc Tryd.prog tr40 40=some cf40:=by kernel_rfl
theorem is41:compFunc Tryd.prog tr41 41=some cf41:=by kernel_rfl
theorem is42:compFunc Tryd.prog tr42 42=some cf42:=by kernel_rfl
theorem is43:compFunc Tryd.prog tr43 43=some cf43:=by kernel_rfl
theorem is44:compFunc Tryd.prog tr44 44=some cf44:=by kernel_rfl
theorem is45:compFunc Tryd.prog tr45 45=some cf45:=by kernel_rfl
theorem is46:compFunc Tryd.prog tr46 46=some cf46:=by kernel_rfl
theorem is47:compFunc Tryd.prog tr47 47=some cf47:=by kernel_rfl
theorem is48:compFunc Tryd.prog tr48 48=some cf48:=by kernel_rfl
theorem is49:compFunc Tryd.prog tr49 49=some cf49:=by kernel_rfl
theorem is50:compFunc Tryd.prog tr50 50=some cf50:=by kernel_rfl
theorem is51:compFunc Tryd.prog tr51 51=some cf51:=by kernel_rfl
theorem is52:compFunc Tryd.prog tr52 52=some cf52:=by kernel_rfl
theorem is53:compFunc Tryd.prog tr53 53=some cf53:=by kernel_rfl
theorem is54:compFunc Tryd.prog tr54 54=some cf54:=by kernel_rfl
theorem is55:compFunc Tryd.prog tr55 55=some cf55:=by kernel_rfl
theorem is56:compFunc Tryd.prog tr56 56=some cf56:=by kernel_rfl
theorem is57:compFunc Tryd.prog tr57 57=some cf57:=by kernel_rfl
theorem is58:compFunc Tryd.prog tr58 58=some cf58:=by kernel_rfl
theorem is59:compFunc Tryd.prog tr59 59=some cf59:=by kernel_rfl
theorem is60:compFunc Tryd.prog tr60 60=some cf60:=by kernel_rfl
theorem is61:compFunc Tryd.prog tr61 61=some cf61:=by kernel_rfl
theorem is62:compFunc Tryd.prog tr62 62=some cf62:=by kernel_rfl
theorem is63:compFunc Tryd.prog tr63 63=some cf63:=by kernel_rfl
theorem is64:compFunc Tryd.prog tr64 64=some cf64:=by kernel_rfl
theorem is65:compFunc Tryd.prog tr65 65=some cf65:=by kernel_rfl
theorem is66:compFunc Tryd.prog tr66 66=some cf66:=by kernel_rfl
theorem is67:compFunc Tryd.prog tr67 67=some cf67:=by kernel_rfl
theorem is68:compFunc Tryd.prog tr68 68=some cf68:=by kernel_rfl
theorem is69:compFunc Tryd.prog tr69 69=some cf69:=by kernel_rfl
theorem is70:compFunc Tryd.prog tr70 70=some cf70:=by kernel_rfl
theorem is71:compFunc Tryd.prog tr71 71=some cf71:=by kernel_rfl
theorem is72:compFunc Tryd.prog tr72 72=some cf72:=by kernel_rfl
theorem is73:compFunc Tryd.prog tr73 73=some cf73:=by kernel_rfl
theorem is74:compFunc Tryd.prog tr74 74=some cf74:=by kernel_rfl
theorem is96:compFunc Tryd.prog tr96 96=some cf96:=by kernel_rfl
def cp0x:FuncId→Option CF
 | 2=>some cf2
 | 3=>some cf3
 | 4=>some cf4
 | 5=>some cf5
 | 6=>some cf6
 | 7=>some cf7
 | 8=>some cf8
 | 9=>some cf9
 | 10=>some cf10
 | 11=>some cf11
 | 12=>some cf12
 | 13=>some cf13
 | 14=>some cf14
 | 15=>some cf15
 | _=>none
theorem compiled0x(f:FuncId)(cf:CF)(h:cp0x f=some cf):∃t,compFunc Tryd.prog t f=some cf:=by
 unfold cp0x at h
 split at h
 ·cases h;exact⟨_,is2⟩
 ·cases h;exact⟨_,is3⟩
 ·cases h;exact⟨_,is4⟩
 ·cases h;exact⟨_,is5⟩
 ·cases h;exact⟨_,is6⟩
 ·cases h;exact⟨_,is7⟩
 ·cases h;exact⟨_,is8⟩
 ·cases h;exact⟨_,is9⟩
 ·cases h;exact⟨_,is10⟩
 ·cases h;exact⟨_,is11⟩
 ·cases h;exact⟨_,is12⟩
 ·cases h;exact⟨_,is13⟩
 ·cases h;exact⟨_,is14⟩
 ·cases h;exact⟨_,is15⟩
 ·simp at h
def cp1x:FuncId→Option CF
 | 16=>some cf16
 | 17=>some cf17
 | 18=>some cf18
 | 19=>some cf19
 | 20=>some cf20
 | 21=>some cf21
 | 22=>some cf22
 | 23=>some cf23
 | 24=>some cf24
 | 25=>some cf25
 | 26=>some cf26
 | 27=>some cf27
 | 28=>some cf28
 | 29=>some cf29
 | 30=>some cf30
 | 31=>some cf31
 | _=>none
theorem compiled1x(f:FuncId)(cf:CF)(h:cp1x f=some cf):∃t,compFunc Tryd.prog t f=some cf:=by
 unfold cp1x at h
 split at h
 ·cases h;exact⟨_,is16⟩
 ·cases h;exact⟨_,is17⟩
 ·cases h;exact⟨_,is18⟩
 ·cases h;exact⟨_,is19⟩
 ·cases h;exact⟨_,is20⟩
 ·cases h;exact⟨_,is21⟩
 ·cases h;exact⟨_,is22⟩
 ·cases h;exact⟨_,is23⟩
 ·cases h;exact⟨_,is24⟩
 ·cases h;exact⟨_,is25⟩
 ·cases h;exact⟨_,is26⟩
 ·cases h;exact⟨_,is27⟩
 ·cases h;exact⟨_,is28⟩
 ·cases h;exact⟨_,is29⟩
 ·cases h;exact⟨_,is30⟩
 ·cases h;exact⟨_,is31⟩
 ·simp at h
def cp2x:FuncId→Option CF
 | 32=>some cf32
 | 33=>some cf33
 | 34=>some cf34
 | 35=>some cf35
 | 36=>some cf36
 | 37=>some cf37
 | 38=>some cf38
 | 39=>some cf39
 | 40=>some cf40
 | 41=>some cf41
 | 42=>some cf42
 | 43=>some cf43
 | 44=>some cf44
 | 45=>some cf45
 | 46=>some cf46
 | 47=>some cf47
 | _=>none
theorem compiled2x(f:FuncId)(cf:CF)(h:cp2x f=some cf):∃t,compFunc Tryd.prog t f=some cf:=by
 unfold cp2x at h
 split at h
 ·cases h;exact⟨_,is32⟩
 ·cases h;exact⟨_,is33⟩
 ·cases h;exact⟨_,is34⟩
 ·cases h;exact⟨_,is35⟩
 ·cases h;exact⟨_,is36⟩
 ·cases h;exact⟨_,is37⟩
 ·cases h;exact⟨_,is38⟩
 ·cases h;exact⟨_,is39⟩
 ·cases h;exact⟨_,is40⟩
 ·cases h;exact⟨_,is41⟩
 ·cases h;exact⟨_,is42⟩
 ·cases h;exact⟨_,is43⟩
 ·cases h;exact⟨_,is44⟩
 ·cases h;exact⟨_,is45⟩
 ·cases h;exact⟨_,is46⟩
 ·cases h;exact⟨_,is47⟩
 ·simp at h
def cp3x:FuncId→Option CF
 | 48=>some cf48
 | 49=>some cf49
 | 50=>some cf50
 | 51=>some cf51
 | 52=>some cf52
 | 53=>some cf53
 | 54=>some cf54
 | 55=>some cf55
 | 56=>some cf56
 | 57=>some cf57
 | 58=>some cf58
 | 59=>some cf59
 | 60=>some cf60
 | 61=>some cf61
 | 62=>some cf62
 | 63=>some cf63
 | _=>none
theorem compiled3x(f:FuncId)(cf:CF)(h:cp3x f=some cf):∃t,compFunc Tryd.prog t f=some cf:=by
 unfold cp3x at h
 split at h
 ·cases h;exact⟨_,is48⟩
 ·cases h;exact⟨_,is49⟩
 ·cases h;exact⟨_,is50⟩
 ·cases h;exact⟨_,is51⟩
 ·cases h;exact⟨_,is52⟩
 ·cases h;exact⟨_,is53⟩
 ·cases h;exact⟨_,is54⟩
 ·cases h;exact⟨_,is55⟩
 ·cases h;exact⟨_,is56⟩
 ·cases h;exact⟨_,is57⟩
 ·cases h;exact⟨_,is58⟩
 ·cases h;exact⟨_,is59⟩
 ·cases h;exact⟨_,is60⟩
 ·cases h;exact⟨_,is61⟩
 ·cases h;exact⟨_,is62⟩
 ·cases h;exact⟨_,is63⟩
 ·simp at h
def cp4x:FuncId→Option CF
 | 64=>some cf64
 | 65=>some cf65
 | 66=>some cf66
 | 67=>some cf67
 | 68=>some cf68
 | 69=>some cf69
 | 70=>some cf70
 | 71=>some cf71
 | 72=>some cf72
 | 73=>some cf73
 | 74=>some cf74
 | _=>none
theorem compiled4x(f:FuncId)(cf:CF)(h:cp4x f=some cf):∃t,compFunc Tryd.prog t f=some cf:=by
 unfold cp4x at h
 split at h
 ·cases h;exact⟨_,is64⟩
 ·cases h;exact⟨_,is65⟩
 ·cases h;exact⟨_,is66⟩
 ·cases h;exact⟨_,is67⟩
 ·cases h;exact⟨_,is68⟩
 ·cases h;exact⟨_,is69⟩
 ·cases h;exact⟨_,is70⟩
 ·cases h;exact⟨_,is71⟩
 ·cases h;exact⟨_,is72⟩
 ·cases h;exact⟨_,is73⟩
 ·cases h;exact⟨_,is74⟩
 ·simp at h
def cp6x:FuncId→Option CF
 | 96=>some cf96
 | _=>none
theorem compiled6x(f:FuncId)(cf:CF)(h:cp6x f=some cf):∃t,compFunc Tryd.prog t f=some cf:=by
 unfold cp6x at h
 split at h
 ·cases h;exact⟨_,is96⟩
 ·simp at h
def cp(f:FuncId):Option CF:=match f/16 with
 | 0=>cp0x f
 | 1=>cp1x f
 | 2=>cp2x f
 | 3=>cp3x f
 | 4=>cp4x f
 | 6=>cp6x f
 | _=>none
theorem compiled:Compiled Tryd.prog cp:=by
 intro f cf h
 unfold cp at h
 split at h
 ·exact compiled0x f cf h
 ·exact compiled1x f cf h
 ·exact compiled2x f cf h
 ·exact compiled3x f cf h
 ·exact compiled4x f cf h
 ·exact compiled6x f cf h
 ·simp at h
theorem mixed:Tryd.prog.follows .mixedOrders=true:=by kernel_rfl
theorem okAll(base n:Nat):RunOK Tryd.prog base Tryd.prog.globals.size (run cp n):=sound mixed compiled base n
theorem st2{lo:Nat}{H:Heap}{R:Value→Heap→Prop}(h:wpS cp lo bd2 (bodyQ cf2 R) [] H):Ev cp lo 2 [] H R:=ev_of_wp (cf:=cf2) rfl rfl rfl h
theorem st8{lo:Nat}{H:Heap}{R:Value→Heap→Prop}{a0 a1:Value}(h:wpS cp lo bd8 (bodyQ cf8 R) [a0,a1,undef,undef,undef,undef,undef,undef,undef,undef,undef,undef,undef,undef,undef,undef,undef,undef,undef,undef,undef] H):Ev cp lo 8 [a0,a1] H R:=ev_of_wp (cf:=cf8) rfl rfl rfl h
theorem st10{lo:Nat}{H:Heap}{R:Value→Heap→Prop}{a0 a1:Value}(h:wpS cp lo bd10 (bodyQ cf10 R) [a0,a1,undef,undef,undef,undef,undef,undef,undef,undef,undef,undef,undef,undef,undef,undef,undef,undef,undef,undef,undef,undef,undef,undef,undef,undef,undef,undef,undef,undef,undef,undef] H):Ev cp lo 10 [a0,a1] H R:=ev_of_wp (cf:=cf10) rfl rfl rfl h
theorem st12{lo:Nat}{H:Heap}{R:Value→Heap→Prop}{a0 a1:Value}(h:wpS cp lo bd12 (bodyQ cf12 R) [a0,a1,undef,undef,undef,undef,undef,undef,undef] H):Ev cp lo 12 [a0,a1] H R:=ev_of_wp (cf:=cf12) rfl rfl rfl h
theorem st13{lo:Nat}{H:Heap}{R:Value→Heap→Prop}{a0:Value}(h:wpS cp lo bd13 (bodyD cp lo md13 11 rt13 cf13.res R) [a0,undef,undef,undef,undef,undef,undef,undef,undef,undef,undef,undef,undef,undef,undef,undef,undef,undef] H):Ev cp lo 13 [a0] H R:=ev_of_dfr (cf:=cf13) rfl rfl rfl h
theorem st15{lo:Nat}{H:Heap}{R:Value→Heap→Prop}{a0 a1:Value}(h:wpS cp lo bd15 (bodyQ cf15 R) [a0,a1,undef,undef,undef,undef] H):Ev cp lo 15 [a0,a1] H R:=ev_of_wp (cf:=cf15) rfl rfl rfl h
theorem st17{lo:Nat}{H:Heap}{R:Value→Heap→Prop}{a0:Value}(h:wpS cp lo bd17 (bodyQ cf17 R) [a0,undef,undef,undef,undef,undef,undef,undef,undef,undef,undef,undef,undef,undef,undef,undef,undef] H):Ev cp lo 17 [a0] H R:=ev_of_wp (cf:=cf17) rfl rfl rfl h
theorem st19{lo:Nat}{H:Heap}{R:Value→Heap→Prop}{a0:Value}(h:wpS cp lo bd19 (bodyQ cf19 R) [a0,undef,undef,undef] H):Ev cp lo 19 [a0] H R:=ev_of_wp (cf:=cf19) rfl rfl rfl h
theorem st20{lo:Nat}{H:Heap}{R:Value→Heap→Prop}{a0:Value}(h:wpS cp lo bd20 (bodyQ cf20 R) [a0,undef,undef,undef] H):Ev cp lo 20 [a0] H R:=ev_of_wp (cf:=cf20) rfl rfl rfl h
theorem st21{lo:Nat}{H:Heap}{R:Value→Heap→Prop}{a0 a1 a2:Value}(h:wpS cp lo bd21 (bodyQ cf21 R) [a0,a1,a2,undef,undef] H):Ev cp lo 21 [a0,a1,a2] H R:=ev_of_wp (cf:=cf21) rfl rfl rfl h
theorem st22{lo:Nat}{H:Heap}{R:Value→Heap→Prop}{a0 a1 a2:Value}(h:wpS cp lo bd22 (bodyQ cf22 R) [a0,a1,a2,undef,undef,undef,undef,undef,undef,undef,undef,undef,undef,undef,undef,undef,undef,undef,undef,undef,undef,undef] H):Ev cp lo 22 [a0,a1,a2] H R:=ev_of_wp (cf:=cf22) rfl rfl rfl h
theorem st32{lo:Nat}{H:Heap}{R:Value→Heap→Prop}{a0:Value}(h:wpS cp lo bd32 (bodyQ cf32 R) [a0,undef] H):Ev cp lo 32 [a0] H R:=ev_of_wp (cf:=cf32) rfl rfl rfl h
theorem st35{lo:Nat}{H:Heap}{R:Value→Heap→Prop}{a0 a1:Value}(h:wpS cp lo bd35 (bodyQ cf35 R) [a0,a1,undef] H):Ev cp lo 35 [a0,a1] H R:=ev_of_wp (cf:=cf35) rfl rfl rfl h
theorem st36{lo:Nat}{H:Heap}{R:Value→Heap→Prop}{a0 a1 a2:Value}(h:wpS cp lo bd36 (bodyQ cf36 R) [a0,a1,a2,undef,undef,undef,undef,undef,undef] H):Ev cp lo 36 [a0,a1,a2] H R:=ev_of_wp (cf:=cf36) rfl rfl rfl h
theorem st37{lo:Nat}{H:Heap}{R:Value→Heap→Prop}{a0 a1:Value}(h:wpS cp lo bd37 (bodyQ cf37 R) [a0,a1,undef,undef,undef,undef,undef,undef,undef,undef,undef,undef,undef,undef,undef] H):Ev cp lo 37 [a0,a1] H R:=ev_of_wp (cf:=cf37) rfl rfl rfl h
theorem st38{lo:Nat}{H:Heap}{R:Value→Heap→Prop}{a0 a1:Value}(h:wpS cp lo bd38 (bodyQ cf38 R) [a0,a1,undef,undef,undef,undef,undef,undef,undef,undef,undef] H):Ev cp lo 38 [a0,a1] H R:=ev_of_wp (cf:=cf38) rfl rfl rfl h
theorem st50{lo:Nat}{H:Heap}{R:Value→Heap→Prop}{a0 a1 a2:Value}(h:wpS cp lo bd50 (bodyQ cf50 R) [a0,a1,a2,undef,undef,undef,undef,undef,undef,undef,undef,undef] H):Ev cp lo 50 [a0,a1,a2] H R:=ev_of_wp (cf:=cf50) rfl rfl rfl h
theorem st53{lo:Nat}{H:Heap}{R:Value→Heap→Prop}{a0:Value}(h:wpS cp lo bd53 (bodyQ cf53 R) [a0,undef] H):Ev cp lo 53 [a0] H R:=ev_of_wp (cf:=cf53) rfl rfl rfl h
theorem st55{lo:Nat}{H:Heap}{R:Value→Heap→Prop}{a0 a1:Value}(h:wpS cp lo bd55 (bodyQ cf55 R) [a0,a1,undef] H):Ev cp lo 55 [a0,a1] H R:=ev_of_wp (cf:=cf55) rfl rfl rfl h
theorem st56{lo:Nat}{H:Heap}{R:Value→Heap→Prop}{a0:Value}(h:wpS cp lo bd56 (bodyQ cf56 R) [a0,undef,undef] H):Ev cp lo 56 [a0] H R:=ev_of_wp (cf:=cf56) rfl rfl rfl h
theorem st57{lo:Nat}{H:Heap}{R:Value→Heap→Prop}{a0:Value}(h:wpS cp lo bd57 (bodyQ cf57 R) [a0,undef,undef,undef,undef] H):Ev cp lo 57 [a0] H R:=ev_of_wp (cf:=cf57) rfl rfl rfl h
theorem st63{lo:Nat}{H:Heap}{R:Value→Heap→Prop}{a0:Value}(h:wpS cp lo bd63 (bodyQ cf63 R) [a0,undef,undef,undef,undef,undef,undef] H):Ev cp lo 63 [a0] H R:=ev_of_wp (cf:=cf63) rfl rfl rfl h
theorem st64{lo:Nat}{H:Heap}{R:Value→Heap→Prop}{a0 a1:Value}(h:wpS cp lo bd64 (bodyQ cf64 R) [a0,a1,undef,undef,undef,undef,undef,undef,undef,undef,undef,undef,undef,undef,undef,undef,undef,undef,undef,undef,undef,undef,undef,undef,undef,undef,undef,undef,undef,undef,undef,undef,undef,undef,undef,undef] H):Ev cp lo 64 [a0,a1] H R:=ev_of_wp (cf:=cf64) rfl rfl rfl h
theorem st66{lo:Nat}{H:Heap}{R:Value→Heap→Prop}{a0:Value}(h:wpS cp lo bd66 (bodyQ cf66 R) [a0,undef,undef] H):Ev cp lo 66 [a0] H R:=ev_of_wp (cf:=cf66) rfl rfl rfl h
theorem st69{lo:Nat}{H:Heap}{R:Value→Heap→Prop}{a0:Value}(h:wpS cp lo bd69 (bodyQ cf69 R) [a0,undef] H):Ev cp lo 69 [a0] H R:=ev_of_wp (cf:=cf69) rfl rfl rfl h
theorem st70{lo:Nat}{H:Heap}{R:Value→Heap→Prop}{a0:Value}(h:wpS cp lo bd70 (bodyQ cf70 R) [a0,undef] H):Ev cp lo 70 [a0] H R:=ev_of_wp (cf:=cf70) rfl rfl rfl h
end Go.Proofs.YtpbiaeiebhgmgaaDoor
