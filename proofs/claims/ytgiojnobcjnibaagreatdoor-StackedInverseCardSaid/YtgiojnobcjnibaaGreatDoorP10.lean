/- Lemmas. -/
import Derived.Test.YtgiojnobcjnibaaGreatDoorP8
import Derived.Test.YtgiojnobcjnibaaGreatDoorProg
import Derived.KernelRfl
set_option linter.unusedVariables false
set_option linter.unusedSimpArgs false
set_option linter.unusedSectionVars false
namespace Go.Proofs.YtgiojnobcjnibaaGreatDoor
open Go.Abs
def lit0:ByteArray:=⟨#[0,1,2,2,3,3,3,3,4,4,4,4,4,4,4,4,5,5,5,5,5,5,5,5,5,5,5,5,5,5,5,5,6,6,6,6,6,6,6,6,6,6,6,6,6,6,6,6,6,6,6,6,6,6,6,6,6,6,6,6,6,6,6,6,7,7,7,7,7,7,7,7,7,7,7,7,7,7,7,7,7,7,7,7,7,7,7,7,7,7,7,7,7,7,7,7,7,7,7,7,7,7,7,7,7,7,7,7,7,7,7,7,7,7,7,7,7,7,7,7,7,7,7,7,7,7,7,7,8,8,8,8,8,8,8,8,8,8,8,8,8,8,8,8,8,8,8,8,8,8,8,8,8,8,8,8,8,8,8,8,8,8,8,8,8,8,8,8,8,8,8,8,8,8,8,8,8,8,8,8,8,8,8,8,8,8,8,8,8,8,8,8,8,8,8,8,8,8,8,8,8,8,8,8,8,8,8,8,8,8,8,8,8,8,8,8,8,8,8,8,8,8,8,8,8,8,8,8,8,8,8,8,8,8,8,8,8,8,8,8,8,8,8,8,8,8,8,8,8,8,8,8,8,8,8,8]⟩
def lit1:ByteArray:=⟨#[116,104,101,32,114,101,115,117,108,116,32,111,102,32,40,108,101,110,40,120,41,32,42,32,99,111,117,110,116,41,32,111,118,101,114,102,108,111,119,115]⟩
def lit2:ByteArray:=⟨#[115,116,114,105,110,103,115,58,32,82,101,112,101,97,116,32,111,117,116,112,117,116,32,108,101,110,103,116,104,32,111,118,101,114,102,108,111,119]⟩
def lit3:ByteArray:=⟨#[32,32,32,32,32,32,32,32,32,32,32,32,32,32,32,32,32,32,32,32,32,32,32,32,32,32,32,32,32,32,32,32,32,32,32,32,32,32,32,32,32,32,32,32,32,32,32,32,32,32,32,32,32,32,32,32,32,32,32,32,32,32,32,32,32,32,32,32,32,32,32,32,32,32,32,32,32,32,32,32,32,32,32,32,32,32,32,32,32,32,32,32,32,32,32,32,32,32,32,32,32,32,32,32,32,32,32,32,32,32,32,32,32,32,32,32,32,32,32,32,32,32,32,32,32,32,32,32]⟩
def lit4:ByteArray:=⟨#[45,45,45,45,45,45,45,45,45,45,45,45,45,45,45,45,45,45,45,45,45,45,45,45,45,45,45,45,45,45,45,45,45,45,45,45,45,45,45,45,45,45,45,45,45,45,45,45,45,45,45,45,45,45,45,45,45,45,45,45,45,45,45,45,45,45,45,45,45,45,45,45,45,45,45,45,45,45,45,45,45,45,45,45,45,45,45,45,45,45,45,45,45,45,45,45,45,45,45,45,45,45,45,45,45,45,45,45,45,45,45,45,45,45,45,45,45,45,45,45,45,45,45,45,45,45,45,45]⟩
def lit5:ByteArray:=⟨#[48,48,48,48,48,48,48,48,48,48,48,48,48,48,48,48,48,48,48,48,48,48,48,48,48,48,48,48,48,48,48,48,48,48,48,48,48,48,48,48,48,48,48,48,48,48,48,48,48,48,48,48,48,48,48,48,48,48,48,48,48,48,48,48]⟩
def lit6:ByteArray:=⟨#[61,61,61,61,61,61,61,61,61,61,61,61,61,61,61,61,61,61,61,61,61,61,61,61,61,61,61,61,61,61,61,61,61,61,61,61,61,61,61,61,61,61,61,61,61,61,61,61,61,61,61,61,61,61,61,61,61,61,61,61,61,61,61,61,61,61,61,61,61,61,61,61,61,61,61,61,61,61,61,61,61,61,61,61,61,61,61,61,61,61,61,61,61,61,61,61,61,61,61,61,61,61,61,61,61,61,61,61,61,61,61,61,61,61,61,61,61,61,61,61,61,61,61,61,61,61,61,61]⟩
def lit7:ByteArray:=⟨#[9,9,9,9,9,9,9,9,9,9,9,9,9,9,9,9,9,9,9,9,9,9,9,9,9,9,9,9,9,9,9,9,9,9,9,9,9,9,9,9,9,9,9,9,9,9,9,9,9,9,9,9,9,9,9,9,9,9,9,9,9,9,9,9]⟩
def lit8:ByteArray:=⟨#[48,49,50,51,52,53,54,55,56,57,97,98,99,100,101,102,103,104,105,106,107,108,109,110,111,112,113,114,115,116,117,118,119,120,121,122]⟩
def lit9:ByteArray:=⟨#[48,48,48,49,48,50,48,51,48,52,48,53,48,54,48,55,48,56,48,57,49,48,49,49,49,50,49,51,49,52,49,53,49,54,49,55,49,56,49,57,50,48,50,49,50,50,50,51,50,52,50,53,50,54,50,55,50,56,50,57,51,48,51,49,51,50,51,51,51,52,51,53,51,54,51,55,51,56,51,57,52,48,52,49,52,50,52,51,52,52,52,53,52,54,52,55,52,56,52,57,53,48,53,49,53,50,53,51,53,52,53,53,53,54,53,55,53,56,53,57,54,48,54,49,54,50,54,51,54,52,54,53,54,54,54,55,54,56,54,57,55,48,55,49,55,50,55,51,55,52,55,53,55,54,55,55,55,56,55,57,56,48,56,49,56,50,56,51,56,52,56,53,56,54,56,55,56,56,56,57,57,48,57,49,57,50,57,51,57,52,57,53,57,54,57,55,57,56,57,57]⟩
def lit10:ByteArray:=⟨#[115,116,114,99,111,110,118,58,32,105,108,108,101,103,97,108,32,65,112,112,101,110,100,73,110,116,47,70,111,114,109,97,116,73,110,116,32,98,97,115,101]⟩
namespace K
def x(n:Nat):E:=.var n
def i(n:Int):E:=.cst (.int .i64 n)
def c(a b:E):E:=.cons a b
def c1(a:E):E:=.cons a .nil
def c2(a b:E):E:=.cons a (.cons b .nil)
def c3(a b c:E):E:=.cons a (.cons b (.cons c .nil))
def n1(o:LOp)(a:E):E:=.node o (.cons a .nil)
def n2(o:LOp)(a b:E):E:=.node o (.cons a (.cons b .nil))
def b(o:BinOp)(a b:E):E:=.node (.bin o) (.cons a (.cons b .nil))
def ld(a:E):E:=.node (.ld 1 false) (.cons a .nil)
def fa(n:Nat)(a:E):E:=.node (.fAddr n) (.cons a .nil)
def ix(n:Nat)(a:E):E:=.node (.ext n) (.cons a .nil)
def p(a b c:E):E:=.pick a b c
def h(d:Nat)(o:HOp)(a:E):Stm:=.hv [] [] [] (some d) o a
def cl(d f:Nat)(a:E):Stm:=.hv [] [] [] (some d) (.call false) (.cons (.cst (.func (.func f) #[] #[])) a)
def s(l:List (Nat×E)):Stm:=.sets l []
def q(a b:Stm):Stm:=.seq a b
end K
set_option linter.defProp false in
def kB:=And.intro @K.x.eq_1 (And.intro @K.i.eq_1 (And.intro @K.c.eq_1 (And.intro @K.c1.eq_1 (And.intro @K.c2.eq_1 (And.intro @K.c3.eq_1 (And.intro @K.n1.eq_1 (And.intro @K.n2.eq_1 (And.intro @K.b.eq_1 (And.intro @K.ld.eq_1 (And.intro @K.fa.eq_1 (And.intro @K.ix.eq_1 (And.intro @K.p.eq_1 (And.intro @K.h.eq_1 (And.intro @K.cl.eq_1 (And.intro @K.s.eq_1 @K.q.eq_1)))))))))))))))
section
open K
def bd3:Stm:=
 q (s [(3,.cst (.bool false))]) (q (.cond (b .gtr (n1 .len (x 2)) (i 20)) (q (q (cl 14 9 .nil) (s [(3,x 14)])) .ret) .skip) (q (q (cl 15 10 (c2 (x 0) (x 1)))
 (s [(5,ix 1 (x 15)),(4,ix 0 (x 15))])) (q (q (cl 16 11 (c2 (x 0) (x 1))) (s [(7,ix 1 (x 16)),(6,ix 0 (x 16))])) (q (q (cl 17 12 (c1 (x 2))) (s [(10,ix
 2 (x 17)),(9,ix 1 (x 17)),(8,ix 0 (x 17))])) (q (q (cl 18 13 (c1 (x 2))) (s [(13,ix 2 (x 18)),(12,ix 1 (x 18)),(11,ix 0 (x 18))])) (q (q (cl 19 14
 (c2 (x 4) (x 6))) (q (.hv [(20,p (p (p (p (x 19) (b .eql (x 5) (x 7)) (.cst (.bool false))) (b .eql (x 8) (x 11)) (.cst (.bool false))) (b .eql (x 9) (x 12))
 (.cst (.bool false))) (b .eql (x 10) (x 13)) (.cst (.bool false)))] [] [(p (p (p (p (x 19) (b .eql (x 5) (x 7)) (.cst (.bool false))) (b .eql (x 8) (x 11))
 (.cst (.bool false))) (b .eql (x 9) (x 12)) (.cst (.bool false))) (b .eql (x 10) (x 13)) (.cst (.bool false)),true)] (some 21) (.call false) (c1 (.cst (.func
 (.func 9) #[] #[])))) (s [(3,p (x 20) (x 21) (.cst (.bool false)))]))) .ret))))))
def cf3:CF:=⟨3,22,[(.var 3)],bd3,.plain⟩
def tr3:List Nat:=[0,1,2,6,7,8,9,10,11,12,13,14,15,16,20,24,30,35,41,47,68,69]
def bd7:Stm:=
 q (s [(2,.cst (.bool false))]) (q (q (cl 13 10 (c2 (x 0) (x 1))) (s [(4,ix 1 (x 13)),(3,ix 0 (x 13))])) (q (.cond (b .neq (x 4) (i 0)) (q (q (.hv [(14,p (b
 .eql (n1 .len (x 3)) (i 0)) (p (p (p (p (b .neq (x 0) (i 0)) (b .neq (x 0) (i 3)) (.cst (.bool false))) (b .neq (x 0) (i 6)) (.cst (.bool false))) (.cst
 (.bool true)) (b .lss (x 1) (i 0))) (.cst (.bool true)) (b .gtr (x 1) (i 928))) (.cst (.bool false)))] [] [(p (b .eql (n1 .len (x 3)) (i 0)) (p (p (p (p (b
 .neq (x 0) (i 0)) (b .neq (x 0) (i 3)) (.cst (.bool false))) (b .neq (x 0) (i 6)) (.cst (.bool false))) (.cst (.bool true)) (b .lss (x 1) (i 0))) (.cst (.bool
 true)) (b .gtr (x 1) (i 928))) (.cst (.bool false)),true)] (some 15) (.call false) (c1 (.cst (.func (.func 9) #[] #[])))) (s [(2,p (x 14) (x 15) (.cst
 (.bool false)))])) .ret) .skip) (q (q (cl 16 12 (c1 (x 3))) (s [(7,ix 2 (x 16)),(6,ix 1 (x 16)),(5,ix 0 (x 16))])) (q (.cond (p (p (p (b .neq (x 7) (i
 0)) (.cst (.bool true)) (b .neq (x 5) (x 0))) (.cst (.bool true)) (b .neq (x 6) (x 1))) (.cst (.bool true)) (b .neq (n1 .len (x 3)) (i 8))) (q (s [(2,.cst
 (.bool false))]) .ret) .skip) (q (s [(8,i 0)]) (q (q (s [(18,i 0),(17,n1 .len (x 3))]) (.block 0 (.loop (q (.cond (b .lss (x 18) (x 17)) .skip (.exit 0))
 (q (.block 1 (q (s [(9,x 18)]) (q (.cond (p (b .lss (ld (n2 (.iAddr 1) (x 3) (x 9))) (i 1)) (.cst (.bool true)) (b .gtr (ld (n2 (.iAddr 1) (x 3) (x 9))) (i
 6))) (q (s [(2,.cst (.bool false))]) .ret) .skip) (s [(8,b .add (x 8) (ld (n2 (.iAddr 1) (x 3) (x 9))))])))) (s [(18,b .add (x 18) (i 1))])))))) (q (.cond
 (p (b .neq (x 8) (i 17)) (.cst (.bool true)) (b .neq (b .rem (b .add (b .sub (b .add (b .sub (ld (n2 (.iAddr 1) (x 3) (i 0))) (ld (n2 (.iAddr 1) (x 3) (i
 2)))) (ld (n2 (.iAddr 1) (x 3) (i 4)))) (ld (n2 (.iAddr 1) (x 3) (i 6)))) (i 18)) (i 9)) (x 0))) (q (s [(2,.cst (.bool false))]) .ret) .skip) (q (q (cl 19 10
 (c2 (x 0) (b .add (x 1) (i 1)))) (s [(11,ix 1 (x 19)),(10,ix 0 (x 19))])) (q (q (s [(12,i 0)]) (.block 2 (.loop (q (.cond (p (b .eql (x 11) (i 0)) (b .lss
 (x 12) (i 8)) (.cst (.bool false))) .skip (.exit 2)) (q (.block 3 (q (.cond (p (b .neq (n1 .len (x 10)) (i 8)) (.cst (.bool true)) (b .lss (ld (n2 (.iAddr 1)
 (x 10) (x 12))) (ld (n2 (.iAddr 1) (x 3) (x 12))))) (q (s [(2,.cst (.bool false))]) .ret) .skip) (.cond (b .gtr (ld (n2 (.iAddr 1) (x 10) (x 12))) (ld (n2
 (.iAddr 1) (x 3) (x 12)))) (.exit 2) .skip))) (s [(12,b .add (x 12) (i 1))])))))) (q (q (.hv [(20,n2 (.eqB false) (b .eql (x 11) (i 0)) (b .lss (x 1) (i
 928)))] [] [(n2 (.eqB false) (b .eql (x 11) (i 0)) (b .lss (x 1) (i 928)),true)] (some 21) (.call false) (c1 (.cst (.func (.func 9) #[] #[])))) (s [(2,p (x
 20) (x 21) (.cst (.bool false)))])) .ret))))))))))
def cf7:CF:=⟨2,22,[(.var 2)],bd7,.plain⟩
def tr7:List Nat:=[0,1,4,5,6,7,8,9,10,11,12,13,14,18,46,47,51,73,74,123,162,163]
def bd9:Stm:=
 q (s [(0,.cst (.bool false))]) (q (q (cl 14 10 (c2 (i 0) (i 0))) (s [(2,ix 1 (x 14)),(1,ix 0 (x 14))])) (q (q (h 15 (.bSl [.int .i64 0] 8 [0,1,2,3,4,5,
 6,7]) (c (i 1) (c (i 1) (c (i 1) (c (i 1) (c (i 4) (c3 (i 2) (i 1) (i 6)))))))) (q (cl 16 12 (c1 (x 15))) (s [(5,ix 2 (x 16)),(4,ix 1 (x 16)),(3,ix 0 (x
 16))]))) (q (q (cl 17 15 (c (i 4) (c3 (i 10) (i 5) (i 2)))) (s [(8,ix 2 (x 17)),(7,ix 1 (x 17)),(6,ix 0 (x 17))])) (q (q (h 18 (.bSl [.int .u8 0] 2 [0,
 1]) (c2 (.cst (.int .u8 65)) (.cst (.int .u8 49)))) (q (h 19 .frz (c1 (x 18))) (q (cl 20 17 (c2 (x 19) (n2 (.build [.int .i64 0,.int .i64 0] [(0,1),(1,
 1)]) (i 2) (i 1)))) (q (.hv [(22,ix 1 (x 20)),(21,ix 0 (x 20))] [] [] (some 9) (.alloc [.int .i64 0,.int .i64 0,.int .i64 0,.int .i64 0,.int .i64 0,
 .slice none 0 0]) .nil) (q (.hv [] [] [] none (.st 6) (c2 (x 9) (x 21))) (s [(10,x 22)])))))) (q (q (cl 23 20 (c1 (n1 (.ld 3 true) (fa 3 (x 9))))) (s [(13,
 ix 2 (x 23)),(12,ix 1 (x 23)),(11,ix 0 (x 23))])) (q (.cond (p (p (p (p (b .neq (x 2) (i 0)) (.cst (.bool true)) (b .neq (x 5) (i 0))) (.cst (.bool true))
 (b .neq (x 8) (i 0))) (.cst (.bool true)) (b .neq (x 10) (i 0))) (.cst (.bool true)) (b .neq (x 13) (i 0))) (q (s [(0,.cst (.bool false))]) .ret) .skip) (q
 (q (.hv [(24,x 1)] [] [] (some 25) (.bSl [.int .i64 0] 8 [0,1,2,3,4,5,6,7]) (c (i 1) (c (i 1) (c (i 1) (c (i 1) (c (i 1) (c3 (i 5) (i 1) (i 6))))))))
 (q (cl 26 14 (c2 (x 24) (x 25))) (s [(0,p (p (p (p (p (p (p (p (p (p (x 26) (b .eql (x 3) (i 3)) (.cst (.bool false))) (b .eql (x 4) (i 0)) (.cst (.bool
 false))) (b .eql (x 6) (i 36)) (.cst (.bool false))) (b .eql (x 7) (i 33)) (.cst (.bool false))) (b .eql (ld (fa 1 (x 9))) (i 2)) (.cst (.bool false))) (b
 .eql (ld (fa 2 (x 9))) (i 1)) (.cst (.bool false))) (b .eql (ld (fa 0 (fa 3 (x 9)))) (i 103)) (.cst (.bool false))) (b .eql (ld (fa 1 (fa 3 (x 9)))) (ld (fa 0
 (x 9)))) (.cst (.bool false))) (b .eql (n1 .b2s (x 11)) (.cst (.string ⟨ #[65,49] ⟩))) (.cst (.bool false))) (b .eql (x 12) (i 0)) (.cst (.bool false)))])))
 .ret)))))))
def cf9:CF:=⟨0,27,[(.var 0)],bd9,.plain⟩
def tr9:List Nat:=[0,1,2,3,4,5,6,7,8,9,10,11,12,13,15,19,20,25,30,31,33,34,35,39,61,62,63]
def bd10:Stm:=
 q (s [(3,i 0),(2,.cst (.slice none 0 0))]) (q (.cond (p (p (p (p (b .neq (x 0) (i 0)) (b .neq (x 0) (i 3)) (.cst (.bool false))) (b .neq (x 0) (i 6)) (.cst
 (.bool false))) (.cst (.bool true)) (b .lss (x 1) (i 0))) (.cst (.bool true)) (b .gtr (x 1) (i 928))) (q (s [(3,i 3),(2,.cst (.slice none 0 0))]) .ret)
 .skip) (q (q (cl 4 23 .nil) (q (cl 5 24 (c3 (x 4) (x 0) (x 1))) (s [(3,i 0),(2,x 5)]))) .ret))
def cf10:CF:=⟨2,6,[(.var 2),(.var 3)],bd10,.plain⟩
def tr10:List Nat:=[0,1,4,5,24,27]
def bd11:Stm:=
 q (s [(3,i 0),(2,.cst (.slice none 0 0))]) (q (.cond (p (p (p (p (b .neq (x 0) (i 0)) (b .neq (x 0) (i 3)) (.cst (.bool false))) (b .neq (x 0) (i 6)) (.cst
 (.bool false))) (.cst (.bool true)) (b .lss (x 1) (i 0))) (.cst (.bool true)) (b .gtr (x 1) (i 928))) (q (s [(3,i 3),(2,.cst (.slice none 0 0))]) .ret)
 .skip) (q (q (cl 4 26 .nil) (q (cl 5 25 (c3 (x 4) (x 0) (x 1))) (s [(3,i 0),(2,x 5)]))) .ret))
def cf11:CF:=⟨2,6,[(.var 2),(.var 3)],bd11,.plain⟩
def tr11:List Nat:=[0,1,4,5,24,27]
def bd12:Stm:=
 q (s [(3,i 0),(2,i 0),(1,i 0)]) (q (q (cl 4 23 .nil) (q (cl 5 27 (c2 (x 4) (x 0))) (s [(3,ix 2 (x 5)),(2,ix 1 (x 5)),(1,ix 0 (x 5))]))) .ret)
def cf12:CF:=⟨1,6,[(.var 1),(.var 2),(.var 3)],bd12,.plain⟩
def tr12:List Nat:=[0,2,3,4,5,7]
def bd13:Stm:=
 q (s [(3,i 0),(2,i 0),(1,i 0)]) (q (.cond (b .neq (n1 .len (x 0)) (i 8)) (q (s [(3,i 7),(2,i 0),(1,i 0)]) .ret) .skip) (q (q (s [(4,i 0)]) (.block 0
 (.loop (q (.cond (b .lss (x 4) (n1 .len (x 0))) .skip (.exit 0)) (q (.block 1 (.cond (p (b .lss (ld (n2 (.iAddr 1) (x 0) (x 4))) (i 1)) (.cst (.bool true)) (b
 .gtr (ld (n2 (.iAddr 1) (x 0) (x 4))) (i 6))) (q (s [(3,i 3),(2,i 0),(1,i 0)]) .ret) .skip)) (s [(4,b .add (x 4) (i 1))])))))) (q (q (cl 7 26 .nil) (q
 (cl 8 28 (c2 (x 7) (x 0))) (s [(6,ix 1 (x 8)),(5,ix 0 (x 8))]))) (q (q (cl 9 29 (c2 (x 5) (x 6))) (.cond (n1 (.un .not) (x 9)) (q (s [(3,i 18),(2,i 0),
 (1,i 0)]) .ret) .skip)) (q (s [(3,i 0),(2,x 6),(1,x 5)]) .ret)))))
def cf13:CF:=⟨1,10,[(.var 1),(.var 2),(.var 3)],bd13,.plain⟩
def tr13:List Nat:=[0,2,3,4,5,6,7,30,32,37]
def bd14:Stm:=
 q (s [(2,.cst (.bool false))]) (q (.cond (b .neq (n1 .len (x 0)) (n1 .len (x 1))) (q (s [(2,.cst (.bool false))]) .ret) .skip) (q (q (s [(3,i 0)]) (.block 0
 (.loop (q (.cond (b .lss (x 3) (n1 .len (x 0))) .skip (.exit 0)) (q (.block 1 (.cond (b .neq (ld (n2 (.iAddr 1) (x 0) (x 3))) (ld (n2 (.iAddr 1) (x 1) (x
 3)))) (q (s [(2,.cst (.bool false))]) .ret) .skip)) (s [(3,b .add (x 3) (i 1))])))))) (q (s [(2,.cst (.bool true))]) .ret)))
def cf14:CF:=⟨2,4,[(.var 2)],bd14,.plain⟩
def tr14:List Nat:=[0,1,4,5]
def bd15:Stm:=
 q (s [(6,i 0),(5,i 0),(4,i 0)]) (q (.cond (p (p (p (p (p (b .lss (x 1) (i 3)) (.cst (.bool true)) (b .gtr (x 1) (i 90))) (.cst (.bool true)) (b .lss (x 2)
 (i 1))) (.cst (.bool true)) (b .gtr (x 2) (i 30))) (.cst (.bool true)) (b .lss (x 0) (i 0))) (.cst (.bool true)) (b .geq (x 0) (x 1))) (q (s [(6,i 3),(5,i
 0),(4,i 0)]) .ret) .skip) (q (.cond (p (b .lss (x 3) (i 0)) (.cst (.bool true)) (b .gtr (x 3) (i 8))) (q (s [(6,i 15),(5,i 0),(4,i 0)]) .ret) .skip) (q
 (s [(7,b .mul (i 30) (b .quo (x 0) (i 3)))]) (q (s [(8,b .add (x 7) (b .quo (b .sub (x 1) (i 1)) (i 3)))]) (q (s [(9,b .add (b .add (x 7) (b .mul (i 3) (x
 3))) (b .rem (b .sub (x 1) (i 1)) (i 3)))]) (q (s [(10,b .sub (b .add (x 7) (x 2)) (i 1))]) (q (q (s [(11,b .rem (x 0) (i 3))]) (.block 0 (.cond (b .eql (x
 11) (i 0)) (q (s [(6,i 0),(5,x 10),(4,x 8)]) .ret) (.cond (b .eql (x 11) (i 1)) (q (s [(6,i 0),(5,x 8),(4,x 9)]) .ret) .skip)))) (q (s [(6,i 0),
 (5,x 9),(4,x 10)]) .ret))))))))
def cf15:CF:=⟨4,12,[(.var 4),(.var 5),(.var 6)],bd15,.plain⟩
def tr15:List Nat:=[0,1,2,3,8,9,10,11,12,13,14,65]
def bd17:Stm:=
 q (q (h 2 .box (c1 (x 1))) (q (h 3 (.alloc [.int .i64 0,.int .i64 0,.int .i64 0,.int .i64 0,.int .i64 0,.slice none 0 0]) .nil) (s [(4,i 0)]))) (q (.cond
 (p (b .lss (ld (fa 0 (x 2))) (i 1)) (.cst (.bool true)) (b .gtr (ld (fa 0 (x 2))) (i 30))) (q (q (.hv [] [] [] none (.st 6) (c2 (x 3) (.node (.build [.int
 .i64 0,.int .i64 0,.int .i64 0,.int .i64 0,.int .i64 0,.slice none 0 0] []) .nil))) (s [(4,i 3)])) .ret) .skip) (q (.cond (p (b .lss (ld (fa 1 (x 2)))
 (i 0)) (.cst (.bool true)) (b .gtr (ld (fa 1 (x 2))) (i 8))) (q (q (.hv [] [] [] none (.st 6) (c2 (x 3) (.node (.build [.int .i64 0,.int .i64 0,.int .i64 0,
 .int .i64 0,.int .i64 0,.slice none 0 0] []) .nil))) (s [(4,i 15)])) .ret) .skip) (q (q (cl 12 31 (c1 (x 0))) (s [(6,ix 1 (x 12)),(5,ix 0 (x 12))])) (q
 (.cond (b .neq (x 6) (i 0)) (q (q (.hv [(13,x 6)] [] [] none (.st 6) (c2 (x 3) (.node (.build [.int .i64 0,.int .i64 0,.int .i64 0,.int .i64 0,.int .i64
 0,.slice none 0 0] []) .nil))) (s [(4,x 13)])) .ret) .skip) (q (q (.hv [(14,b .add (i 1) (n1 .len (x 5)))] [] [] (some 15) (.call false) (c2 (.cst (.func
 (.func 32) #[] #[])) (ld (fa 1 (x 2))))) (s [(7,b .add (x 14) (x 15))])) (q (s [(8,n2 (.minmax true) (i 3) (b .quo (b .sub (b .add (x 7) (ld (fa 0 (x 2))))
 (i 1)) (ld (fa 0 (x 2)))))]) (q (.cond (p (b .gtr (x 8) (i 90)) (.cst (.bool true)) (b .gtr (b .mul (x 8) (ld (fa 0 (x 2)))) (i 928))) (q (q (.hv [] [] []
 none (.st 6) (c2 (x 3) (.node (.build [.int .i64 0,.int .i64 0,.int .i64 0,.int .i64 0,.int .i64 0,.slice none 0 0] []) .nil))) (s [(4,i 16)])) .ret)
 .skip) (q (q (h 16 (.bSl [.int .i64 0] 1 [0]) (c1 (b .add (n1 .len (x 5)) (i 1)))) (q (h 17 (.app 1 [.int .i64 0]) (c2 (x 16) (x 5))) (s [(9,x 17)]))) (q
 (.block 0 (.loop (q (q (.hv [(19,b .mul (x 8) (ld (fa 0 (x 2)))),(18,n1 .len (x 9))] [] [] (some 20) (.callK 1) (c3 (fa 0 (x 2)) (.cst (.func (.func 32)
 #[] #[])) (ld (fa 1 (x 2))))) (.cond (b .lss (x 18) (b .sub (x 19) (x 20))) .skip (.exit 0))) (.block 1 (q (.hv [(21,x 9)] [] [] (some 22) (.bSl [.int .i64
 0] 1 [0]) (c1 (i 900))) (q (h 23 (.app 1 [.int .i64 0]) (c2 (x 21) (x 22))) (s [(9,x 23)]))))))) (q (q (cl 24 33 (c1 (ld (fa 1 (x 2))))) (q (.hv [(26,ix 1
 (x 24)),(25,ix 0 (x 24))] [] [] (some 10) (.alloc [.int .i64 0,.int .i64 0,.int .i64 0,.int .i64 0,.int .i64 0]) .nil) (q (.hv [] [] [] none (.st 5) (c2
 (x 10) (x 25))) (s [(6,x 26)])))) (q (.cond (b .neq (x 6) (i 0)) (q (q (.hv [(27,x 6)] [] [] none (.st 6) (c2 (x 3) (.node (.build [.int .i64 0,.int .i64
 0,.int .i64 0,.int .i64 0,.int .i64 0,.slice none 0 0] []) .nil))) (s [(4,x 27)])) .ret) .skip) (q (q (cl 28 34 (c2 (n1 (.ld 5 true) (x 10)) (x 9))) (s
 [(6,ix 1 (x 28)),(11,ix 0 (x 28))])) (q (.cond (b .neq (x 6) (i 0)) (q (q (.hv [(29,x 6)] [] [] none (.st 6) (c2 (x 3) (.node (.build [.int .i64 0,.int
 .i64 0,.int .i64 0,.int .i64 0,.int .i64 0,.slice none 0 0] []) .nil))) (s [(4,x 29)])) .ret) .skip) (q (q (.hv [(32,ld (fa 1 (x 2))),(31,ld (fa 0 (x
 2))),(30,x 8)] [] [] (some 33) (.callK 2) (c (fa 0 (x 2)) (c (fa 1 (x 2)) (c (.cst (.func (.func 35) #[] #[])) (c3 (x 11) (x 8) (n1 (.ld 2 true) (x 2)))))))
 (q (.hv [] [] [] none (.st 6) (c2 (x 3) (.node (.build [.int .i64 0,.int .i64 0,.int .i64 0,.int .i64 0,.int .i64 0,.slice none 0 0] [(0,1),(1,1),(2,
 1),(3,3)]) (c (x 30) (c3 (x 31) (x 32) (x 33)))))) (s [(4,i 0)]))) .ret))))))))))))))
def cf17:CF:=⟨2,34,[(.node (.ld 6 true) (.cons (.var 3) .nil)),(.var 4)],bd17,.plain⟩
def tr17:List Nat:=[0,1,3,4,5,6,7,8,9,10,11,12,33,39,42,45,69,71,73,77,80,83,84,85,89,90,91,95,99,105,106,108,110,114]
def bd20:Stm:=
 q (q (h 1 .box (c1 (x 0))) (s [(4,i 0),(3,i 0),(2,.cst (.slice none 0 0))])) (q (q (cl 23 43 (c1 (n1 (.ld 3 true) (x 1)))) (.cond (n1 (.un .not) (x 23)) (q
 (s [(4,i 1),(3,i 0),(2,.cst (.slice none 0 0))]) .ret) .skip)) (q (s [(5,b .quo (b .sub (ld (fa 0 (x 1))) (i 69)) (i 17))]) (q (.cond (p (p (b .lss (x
 5) (i 1)) (.cst (.bool true)) (b .gtr (x 5) (i 30))) (.cst (.bool true)) (b .neq (ld (fa 0 (x 1))) (b .add (b .mul (i 17) (x 5)) (i 69)))) (q (s [(4,i 23),
 (3,i 0),(2,.cst (.slice none 0 0))]) .ret) .skip) (q (q (cl 24 23 .nil) (s [(6,x 24)])) (q (q (cl 25 44 .nil) (q (cl 26 45 .nil) (s [(8,x 26),(7,x
 25)]))) (q (q (h 27 (.mkSl [.nilIface]) (c2 (ld (fa 1 (x 1))) (ld (fa 1 (x 1))))) (s [(9,x 27)])) (q (q (s [(29,i 0),(28,ld (fa 1 (x 1)))]) (.block 0
 (.loop (q (.cond (b .lss (x 29) (x 28)) .skip (.exit 0)) (q (.block 1 (q (s [(10,x 29)]) (q (.hv [(31,x 10),(30,x 9)] [] [] (some 32) (.call false) (c
 (.cst (.func (.func 46) #[] #[])) (c (x 6) (c3 (.node (.sl 1 true true false) (c3 (ld (fa 2 (x 1))) (b .mul (x 10) (ld (fa 0 (x 1)))) (b .mul (b .add (x 10)
 (i 1)) (ld (fa 0 (x 1)))))) (x 7) (x 8))))) (.hv [] [] [] none (.st 1) (c2 (n2 (.iAddr 1) (x 30) (x 31)) (x 32)))))) (s [(29,b .add (x 29) (i 1))])))))) (q
 (q (cl 33 47 (c2 (x 9) (x 5))) (s [(13,ix 2 (x 33)),(12,ix 1 (x 33)),(11,ix 0 (x 33))])) (q (.cond (b .neq (x 13) (i 0)) (q (s [(4,x 13),(3,i 0),(2,
 .cst (.slice none 0 0))]) .ret) .skip) (q (q (cl 34 48 (c (x 6) (c3 (x 9) (x 11) (x 5)))) (s [(15,ix 1 (x 34)),(14,ix 0 (x 34))])) (q (q (cl 35 33 (c1 (x
 12))) (q (.hv [(37,ix 1 (x 35)),(36,ix 0 (x 35))] [] [] (some 16) (.alloc [.int .i64 0,.int .i64 0,.int .i64 0,.int .i64 0,.int .i64 0]) .nil) (q (.hv
 [] [] [] none (.st 5) (c2 (x 16) (x 36))) (s [(13,x 37)])))) (q (.cond (b .neq (x 13) (i 0)) (q (s [(4,x 13),(3,i 0),(2,.cst (.slice none 0 0))]) .ret)
 .skip) (q (q (cl 38 49 (c3 (n1 (.ld 5 true) (x 16)) (x 14) (x 15))) (q (.hv [(40,ix 1 (x 38)),(39,ix 0 (x 38))] [] [] (some 17) (.alloc [.slice none 0 0,
 .slice none 0 0]) .nil) (q (.hv [] [] [] none (.st 2) (c2 (x 17) (x 39))) (s [(13,x 40)])))) (q (.cond (b .neq (x 13) (i 0)) (q (s [(4,x 13),(3,i 0),(2,
 .cst (.slice none 0 0))]) .ret) .skip) (q (s [(18,ld (n2 (.iAddr 1) (ld (fa 0 (x 17))) (i 0)))]) (q (q (.hv [(43,p (b .lss (x 18) (i 1)) (.cst (.tuple #[]))
 (b .mul (x 11) (x 5))),(42,p (b .lss (x 18) (i 1)) (.cst (.tuple #[])) (x 18)),(41,b .lss (x 18) (i 1))] [] [(b .lss (x 18) (i 1),false)] (some 44)
 (.call false) (c2 (.cst (.func (.func 32) #[] #[])) (x 12))) (.cond (p (x 41) (.cst (.bool true)) (b .gtr (x 42) (b .sub (x 43) (x 44)))) (q (s [(4,i 9),(3,
 i 0),(2,.cst (.slice none 0 0))]) .ret) .skip)) (q (q (cl 45 50 (c1 (.node (.sl 1 true true false) (c3 (ld (fa 0 (x 17))) (i 1) (x 18))))) (s [(13,ix 1 (x
 45)),(19,ix 0 (x 45))])) (q (.cond (b .neq (x 13) (i 0)) (q (s [(4,x 13),(3,i 0),(2,.cst (.slice none 0 0))]) .ret) .skip) (q (s [(20,n1 .len (x
 15))]) (q (q (s [(48,i 0),(47,n1 .len (ld (fa 1 (x 17)))),(46,ld (fa 1 (x 17)))]) (.block 2 (.loop (q (.cond (b .lss (x 48) (x 47)) .skip (.exit 2)) (q
 (.block 3 (q (s [(21,ld (n2 (.iAddr 1) (x 46) (x 48)))]) (q (q (cl 49 51 (c2 (x 15) (x 21))) (.sets [(22,ix 1 (x 49))] [ix 0 (x 49)])) (.cond (n1 (.un .not)
 (x 22)) (s [(20,b .add (x 20) (i 1))]) .skip)))) (s [(48,b .add (x 48) (i 1))])))))) (q (s [(4,i 0),(3,x 20),(2,x 19)]) .ret)))))))))))))))))))))
def cf20:CF:=⟨1,50,[(.var 2),(.var 3),(.var 4)],bd20,.plain⟩
def tr20:List Nat:=[0,1,2,3,4,5,6,7,8,9,10,11,12,13,14,15,16,17,18,19,20,22,24,26,46,47,48,51,53,54,57,58,74,80,92,97,98,99,107,108,109,119,120,123,125,134,143,144,145,152]
def bd23:Stm:=
 q (s [(0,.cst (.pointer none))]) (q (h 1 (.alloc (List.replicate 1458 (.int .i64 0))) .nil) (q (.hv [] [] [] none (.st 1) (c2 (n2 (.iAddrA 9 1) (n2 (.iAddrA 18
 9) (n2 (.iAddrA 9 162) (x 1) (i 8)) (i 0)) (i 0)) (i 1))) (q (q (s [(2,i 7)]) (.block 0 (.loop (q (.cond (b .geq (x 2) (i 0)) .skip (.exit 0)) (q (.block 1
 (q (s [(6,i 0)]) (.block 2 (.loop (q (.cond (b .lss (x 6) (i 18)) .skip (.exit 2)) (q (.block 3 (q (s [(3,x 6)]) (q (s [(7,i 0)]) (.block 4 (.loop (q
 (.cond (b .lss (x 7) (i 9)) .skip (.exit 4)) (q (.block 5 (q (s [(4,x 7)]) (q (s [(5,i 1)]) (.block 6 (.loop (q (.cond (b .leq (x 5) (i 6)) .skip (.exit 6))
 (q (.block 7 (q (.hv [(11,n2 (.iAddrA 18 9) (n2 (.iAddrA 9 162) (x 1) (x 2)) (x 3)),(9,ld (n2 (.iAddrA 9 1) (n2 (.iAddrA 18 9) (n2 (.iAddrA 9 162) (x 1) (x
 2)) (x 3)) (x 4))),(8,x 4)] [] [] (some 10) (.callK 1) (c (n2 (.iAddrA 9 1) (n2 (.iAddrA 18 9) (n2 (.iAddrA 9 162) (x 1) (x 2)) (x 3)) (x 4)) (c (.cst
 (.func (.func 59) #[] #[])) (c (x 1) (c (x 2) (c3 (x 3) (x 4) (x 5))))))) (.hv [] [] [] none (.st 1) (c2 (n2 (.iAddrA 9 1) (x 11) (x 8)) (b .add (x 9) (x
 10)))))) (s [(5,b .add (x 5) (i 1))])))))))) (s [(7,b .add (x 7) (i 1))])))))))) (s [(6,b .add (x 6) (i 1))]))))))) (s [(2,b .sub (x 2) (i 1))])))))) (q
 (s [(0,x 1)]) .ret))))
def cf23:CF:=⟨0,12,[(.var 0)],bd23,.plain⟩
def tr23:List Nat:=[0,1,2,3,4,5,13,16,25,29,34,37]
def bd24:Stm:=
 q (s [(3,.cst (.slice none 0 0))]) (q (q (h 8 (.mkSl [.int .i64 0]) (c2 (i 8) (i 8))) (s [(4,x 8)])) (q (s [(5,i 17)]) (q (q (s [(10,i 0),(9,n1 .len (x
 4))]) (.block 0 (.loop (q (.cond (b .lss (x 10) (x 9)) .skip (.exit 0)) (q (.block 1 (q (s [(6,x 10)]) (q (s [(7,i 1)]) (q (.block 2 (.loop (q (q (.hv [(12,
 p (b .lss (x 7) (i 6)) (x 2) (.cst (.tuple #[]))),(11,b .lss (x 7) (i 6))] [] [(b .lss (x 7) (i 6),true)] (some 13) (.call false) (c (.cst (.func (.func
 59) #[] #[])) (c (x 0) (c (x 6) (c3 (x 5) (x 1) (x 7)))))) (.cond (p (x 11) (b .geq (x 12) (x 13)) (.cst (.bool false))) .skip (.exit 2))) (.block 3 (q (q
 (.hv [(14,x 2)] [] [] (some 15) (.call false) (c (.cst (.func (.func 59) #[] #[])) (c (x 0) (c (x 6) (c3 (x 5) (x 1) (x 7)))))) (s [(2,b .sub (x 14) (x
 15))])) (s [(7,b .add (x 7) (i 1))])))))) (q (.hv [] [] [] none (.st 1) (c2 (n2 (.iAddr 1) (x 4) (x 6)) (x 7))) (q (s [(5,b .sub (x 5) (x 7))]) (q (cl 16 60
 (c3 (x 6) (x 1) (x 7))) (s [(1,x 16)])))))))) (s [(10,b .add (x 10) (i 1))])))))) (q (s [(3,x 4)]) .ret))))
def cf24:CF:=⟨3,17,[(.var 3)],bd24,.plain⟩
def tr24:List Nat:=[0,1,2,6,7,8,9,10,11,13,14,19,20,26,29,35,49]
def bd25:Stm:=
 q (q (h 3 .box (c1 (x 0))) (s [(4,.cst (.slice none 0 0))])) (q (s [(5,.cst (.slice none 0 0))]) (q (s [(7,x 1),(6,i 17)]) (q (q (s [(8,i 0)]) (.block 0
 (.loop (q (.cond (b .lss (x 8) (i 8)) .skip (.exit 0)) (q (.block 1 (q (s [(9,i 1)]) (q (.block 2 (.loop (q (q (.hv [(13,n2 (.iAddrA 18 9) (n2 (.iAddrA 9
 162) (fa 0 (x 3)) (b .add (x 8) (i 1))) (b .sub (x 6) (x 9))),(11,b .add (x 7) (i 9)),(10,x 2)] [] [] (some 12) .callC (c3 (.cst (.func (.func 61) #[]
 #[])) (x 8) (x 9))) (.cond (b .geq (x 10) (ld (n2 (.iAddrA 9 1) (x 13) (b .rem (b .sub (x 11) (x 12)) (i 9))))) .skip (.exit 2))) (.block 3 (q (q (.hv [(17,
 n2 (.iAddrA 18 9) (n2 (.iAddrA 9 162) (fa 0 (x 3)) (b .add (x 8) (i 1))) (b .sub (x 6) (x 9))),(15,b .add (x 7) (i 9)),(14,x 2)] [] [] (some 16) .callC
 (c3 (.cst (.func (.func 61) #[] #[])) (x 8) (x 9))) (s [(2,b .sub (x 14) (ld (n2 (.iAddrA 9 1) (x 17) (b .rem (b .sub (x 15) (x 16)) (i 9)))))])) (s [(9,b
 .add (x 9) (i 1))])))))) (q (q (.hv [(18,x 5)] [] [] (some 19) (.bSl [.int .i64 0] 1 [0]) (c1 (x 9))) (q (h 20 (.app 1 [.int .i64 0]) (c2 (x 18) (x 19))) (s
 [(5,x 20)]))) (q (q (.hv [(21,b .add (x 7) (i 9))] [] [] (some 22) (.call false) (c3 (.cst (.func (.func 61) #[] #[])) (x 8) (x 9))) (s [(7,b .rem (b .sub
 (x 21) (x 22)) (i 9))])) (s [(6,b .sub (x 6) (x 9))])))))) (s [(8,b .add (x 8) (i 1))])))))) (q (s [(4,x 5)]) .ret))))
def cf25:CF:=⟨3,23,[(.var 4)],bd25,.plain⟩
def tr25:List Nat:=[0,1,2,3,6,7,8,9,10,11,17,24,27,32,36,43,46,51,57,59,60,62,65]
def bd26:Stm:=
 q (h 0 (.alloc (List.replicate 1458 (.int .i64 0))) .nil) (q (q (.hv [(6,.node (.build (List.replicate 1458 (.int .i64 0)) []) .nil)] [] [] (some 1) (.alloc
 (List.replicate 1458 (.int .i64 0))) .nil) (.hv [] [] [] none (.st 1458) (c2 (x 1) (x 6)))) (q (.hv [] [] [] none (.st 1) (c2 (n2 (.iAddrA 9 1) (n2 (.iAddrA
 18 9) (n2 (.iAddrA 9 162) (fa 0 (x 1)) (i 8)) (i 0)) (i 0)) (i 1))) (q (q (s [(2,i 7)]) (.block 0 (.loop (q (.cond (b .geq (x 2) (i 0)) .skip (.exit 0)) (q
 (.block 1 (q (s [(3,i 0)]) (.block 2 (.loop (q (.cond (b .lss (x 3) (i 18)) .skip (.exit 2)) (q (.block 3 (q (s [(4,i 0)]) (.block 4 (.loop (q (.cond (b
 .lss (x 4) (i 9)) .skip (.exit 4)) (q (.block 5 (q (s [(5,i 1)]) (.block 6 (.loop (q (.cond (b .leq (x 5) (n2 (.minmax false) (i 6) (x 3))) .skip (.exit 6))
 (q (.block 7 (q (.hv [(12,n2 (.iAddrA 18 9) (n2 (.iAddrA 9 162) (fa 0 (x 1)) (x 2)) (x 3)),(11,n2 (.iAddrA 18 9) (n2 (.iAddrA 9 162) (fa 0 (x 1)) (b .add
 (x 2) (i 1))) (b .sub (x 3) (x 5))),(9,b .add (x 4) (i 9)),(8,ld (n2 (.iAddrA 9 1) (n2 (.iAddrA 18 9) (n2 (.iAddrA 9 162) (fa 0 (x 1)) (x 2)) (x 3)) (x
 4))),(7,x 4)] [] [] (some 10) (.callK 1) (c (n2 (.iAddrA 9 1) (n2 (.iAddrA 18 9) (n2 (.iAddrA 9 162) (fa 0 (x 1)) (x 2)) (x 3)) (x 4)) (c3 (.cst (.func
 (.func 61) #[] #[])) (x 2) (x 5)))) (.hv [] [] [] none (.st 1) (c2 (n2 (.iAddrA 9 1) (x 12) (x 7)) (b .add (x 8) (ld (n2 (.iAddrA 9 1) (x 11) (b .rem (b .sub
 (x 9) (x 10)) (i 9))))))))) (s [(5,b .add (x 5) (i 1))]))))))) (s [(4,b .add (x 4) (i 1))]))))))) (s [(3,b .add (x 3) (i 1))]))))))) (s [(2,b .sub (x 2)
 (i 1))])))))) (q (.hv [] [] [] none (.st 1458) (c2 (x 0) (n1 (.ld 1458 true) (x 1)))) .ret))))
def cf26:CF:=⟨0,13,[(.node (.ld 1458 true) (.cons (.var 0) .nil))],bd26,.plain⟩
def tr26:List Nat:=[0,1,2,3,4,5,6,31,39,46,49,54,60]
def bd27:Stm:=
 q (s [(4,i 0),(3,i 0),(2,i 0)]) (q (.cond (b .neq (n1 .len (x 1)) (i 8)) (q (s [(4,i 7),(3,i 0),(2,i 0)]) .ret) .skip) (q (s [(5,i 0)]) (q (q (s
 [(13,i 0),(12,n1 .len (x 1)),(11,x 1)]) (.block 0 (.loop (q (.cond (b .lss (x 13) (x 12)) .skip (.exit 0)) (q (.block 1 (q (s [(6,ld (n2 (.iAddr 1) (x
 11) (x 13)))]) (q (.cond (p (b .lss (x 6) (i 1)) (.cst (.bool true)) (b .gtr (x 6) (i 6))) (q (s [(4,i 3),(3,i 0),(2,i 0)]) .ret) .skip) (s [(5,b .add
 (x 5) (x 6))])))) (s [(13,b .add (x 13) (i 1))])))))) (q (s [(2,b .rem (b .add (b .sub (b .add (b .sub (ld (n2 (.iAddr 1) (x 1) (i 0))) (ld (n2 (.iAddr 1)
 (x 1) (i 2)))) (ld (n2 (.iAddr 1) (x 1) (i 4)))) (ld (n2 (.iAddr 1) (x 1) (i 6)))) (i 18)) (i 9))]) (q (.cond (p (b .neq (x 5) (i 17)) (.cst (.bool true)) (b
 .neq (b .rem (x 2) (i 3)) (i 0))) (q (s [(4,i 18),(3,i 0),(2,i 0)]) .ret) .skip) (q (s [(7,x 2)]) (q (q (s [(16,i 0),(15,n1 .len (x 1)),(14,x 1)])
 (.block 2 (.loop (q (.cond (b .lss (x 16) (x 15)) .skip (.exit 2)) (q (.block 3 (q (s [(9,ld (n2 (.iAddr 1) (x 14) (x 16))),(8,x 16)]) (q (q (s [(10,i
 1)]) (.block 4 (.loop (q (.cond (b .lss (x 10) (x 9)) .skip (.exit 4)) (q (.block 5 (q (.hv [(17,x 3)] [] [] (some 18) (.call false) (c (.cst (.func (.func
 59) #[] #[])) (c (x 0) (c (x 8) (c3 (x 5) (x 7) (x 10)))))) (s [(3,b .add (x 17) (x 18))]))) (s [(10,b .add (x 10) (i 1))])))))) (q (s [(5,b .sub (x 5) (x
 9))]) (q (cl 19 60 (c3 (x 8) (x 7) (x 9))) (s [(7,x 19)])))))) (s [(16,b .add (x 16) (i 1))])))))) (q (.cond (b .gtr (x 3) (i 928)) (q (s [(4,i 18),(3,i
 0),(2,i 0)]) .ret) .skip) (q (s [(4,i 0),(3,x 3),(2,x 2)]) .ret)))))))))
def cf27:CF:=⟨2,20,[(.var 2),(.var 3),(.var 4)],bd27,.plain⟩
def tr27:List Nat:=[0,1,4,5,6,7,9,10,11,12,13,17,18,19,58,59,60,70,76,84]
def bd28:Stm:=
 q (q (h 2 .box (c1 (x 0))) (s [(4,i 0),(3,i 0)])) (q (s [(6,i 0),(5,i 0)]) (q (q (s [(7,i 0)]) (.block 0 (.loop (q (.cond (b .lss (x 7) (n1 .len (x 1)))
 .skip (.exit 0)) (q (.block 1 (q (.cond (p (b .lss (ld (n2 (.iAddr 1) (x 1) (x 7))) (i 1)) (.cst (.bool true)) (b .gtr (ld (n2 (.iAddr 1) (x 1) (x 7))) (i
 6))) (q (s [(4,i 0),(3,i (-1))]) .ret) .skip) (q (s [(5,b .add (x 5) (ld (n2 (.iAddr 1) (x 1) (x 7))))]) (q (.hv [(12,x 6)] [] [] (some 13) (.call false)
 (c3 (.cst (.func (.func 61) #[] #[])) (x 7) (ld (n2 (.iAddr 1) (x 1) (x 7))))) (s [(6,b .rem (b .add (x 12) (x 13)) (i 9))]))))) (s [(7,b .add (x 7) (i
 1))])))))) (q (.cond (p (b .neq (n1 .len (x 1)) (i 8)) (.cst (.bool true)) (b .neq (x 5) (i 17))) (q (s [(4,i 0),(3,i (-1))]) .ret) .skip) (q (s [(9,x 6),
 (8,i 0)]) (q (q (s [(10,i 0)]) (.block 2 (.loop (q (.cond (b .lss (x 10) (i 8)) .skip (.exit 2)) (q (.block 3 (q (q (s [(11,i 1)]) (.block 4 (.loop (q
 (.cond (b .lss (x 11) (ld (n2 (.iAddr 1) (x 1) (x 10)))) .skip (.exit 4)) (q (.block 5 (q (.hv [(17,n2 (.iAddrA 18 9) (n2 (.iAddrA 9 162) (fa 0 (x 2)) (b
 .add (x 10) (i 1))) (b .sub (x 5) (x 11))),(15,b .add (x 9) (i 9)),(14,x 8)] [] [] (some 16) .callC (c3 (.cst (.func (.func 61) #[] #[])) (x 10) (x 11)))
 (s [(8,b .add (x 14) (ld (n2 (.iAddrA 9 1) (x 17) (b .rem (b .sub (x 15) (x 16)) (i 9)))))]))) (s [(11,b .add (x 11) (i 1))])))))) (q (q (.hv [(18,b .add
 (x 9) (i 9))] [] [] (some 19) (.call false) (c3 (.cst (.func (.func 61) #[] #[])) (x 10) (ld (n2 (.iAddr 1) (x 1) (x 10))))) (s [(9,b .rem (b .sub (x 18) (x
 19)) (i 9))])) (s [(5,b .sub (x 5) (ld (n2 (.iAddr 1) (x 1) (x 10))))])))) (s [(10,b .add (x 10) (i 1))])))))) (q (s [(4,x 8),(3,x 6)]) .ret))))))
def cf28:CF:=⟨2,20,[(.var 3),(.var 4)],bd28,.plain⟩
def tr28:List Nat:=[0,1,2,4,5,6,7,8,9,10,11,12,37,43,66,73,76,81,86,92]
def bd29:Stm:=
 q (s [(2,.cst (.bool false))]) (q (s [(2,p (p (p (b .eql (x 0) (i 0)) (.cst (.bool true)) (b .eql (x 0) (i 3))) (.cst (.bool true)) (b .eql (x 0) (i 6))) (b
 .leq (x 1) (i 928)) (.cst (.bool false)))]) .ret)
def cf29:CF:=⟨2,3,[(.var 2)],bd29,.plain⟩
def tr29:List Nat:=[0,1,4]
def bd31:Stm:=
 q (s [(2,i 0),(1,.cst (.slice none 0 0))]) (q (.cond (b .gtr (n1 .len (x 0)) (i 4096)) (q (s [(2,i 4),(1,.cst (.slice none 0 0))]) .ret) .skip) (q (q (cl
 9 62 (c1 (x 0))) (s [(3,x 9)])) (q (q (h 10 (.bSl [.int .i64 0,.int .i64 0,.int .i64 0,.int .i64 0] 1 [0]) (c1 (n1 (.build [.int .i64 0,.int .i64 0,.int
 .i64 0,.int .i64 0] [(0,1)]) (i 0)))) (s [(4,x 10)])) (q (q (cl 11 63 (c2 (x 3) (n1 (.ld 4 true) (n2 (.iAddr 4) (x 4) (i 0))))) (s [(5,x 11)])) (q (q (h
 12 (.mkSl [.int .i64 0]) (c2 (i 0) (x 5))) (s [(6,x 12)])) (q (.block 0 (.loop (q (.cond (b .gtr (x 5) (i 0)) .skip (.exit 0)) (.block 1 (q (s [(5,b .sub (x
 5) (i 1))]) (q (q (cl 13 64 (c3 (x 3) (x 4) (x 5))) (s [(8,ix 1 (x 13)),(7,ix 0 (x 13))])) (q (q (.hv [(14,x 6)] [] [] (some 15) (.bSl [.int .i64 0] 1
 [0]) (c1 (x 7))) (q (h 16 (.app 1 [.int .i64 0]) (c2 (x 14) (x 15))) (s [(6,x 16)]))) (s [(4,x 8)])))))))) (q (s [(2,i 0),(1,x 6)]) .ret)))))))
def cf31:CF:=⟨1,17,[(.var 1),(.var 2)],bd31,.plain⟩
def tr31:List Nat:=[0,2,3,4,5,6,7,8,9,14,16,21,23,32,35,37,38]
def bd32:Stm:=
 q (s [(1,i 0)]) (q (s [(1,b .shl (i 1) (b .add (x 0) (i 1)))]) .ret)
def cf32:CF:=⟨1,2,[(.var 1)],bd32,.plain⟩
def tr32:List Nat:=[0,2]
def bd33:Stm:=
 q (q (h 1 (.alloc [.int .i64 0,.int .i64 0,.int .i64 0,.int .i64 0,.int .i64 0]) .nil) (s [(2,i 0)])) (q (q (cl 5 65 (c1 (i 929))) (q (.hv [(7,ix 1 (x
 5)),(6,ix 0 (x 5))] [] [] (some 3) (.alloc [.int .i64 0,.int .i64 0,.int .i64 0]) .nil) (q (.hv [] [] [] none (.st 3) (c2 (x 3) (x 6))) (s [(4,x 7)]))))
 (q (.cond (b .neq (x 4) (i 0)) (q (q (.hv [(8,x 4)] [] [] none (.st 5) (c2 (x 1) (.node (.build [.int .i64 0,.int .i64 0,.int .i64 0,.int .i64 0,.int
 .i64 0] []) .nil))) (s [(2,x 8)])) .ret) .skip) (q (q (.hv [(9,n1 (.ld 3 true) (x 3))] [] [] (some 10) (.callK 1) (c3 (x 3) (.cst (.func (.func 32) #[]
 #[])) (x 0))) (q (h 11 .callC (c (.cst (.func (.func 66) #[] #[])) (c3 (x 9) (x 10) (i 1)))) (q (.hv [(12,ix 1 (x 11))] [] [] none (.st 5) (c2 (x 1) (ix 0 (x
 11)))) (s [(2,x 12)])))) .ret)))
def cf33:CF:=⟨1,13,[(.node (.ld 5 true) (.cons (.var 1) .nil)),(.var 2)],bd33,.plain⟩
def tr33:List Nat:=[0,2,3,4,5,7,8,9,13,14,16,17,19]
def bd34:Stm:=
 q (q (h 2 .box (c1 (x 0))) (s [(4,i 0),(3,.cst (.slice none 0 0))])) (q (q (cl 15 67 (c2 (n1 (.ld 5 true) (x 2)) (x 1))) (.cond (n1 (.un .not) (x 15)) (q (s
 [(4,i 1),(3,.cst (.slice none 0 0))]) .ret) .skip)) (q (q (.hv [(16,b .eql (n1 .len (x 1)) (i 0))] [] [(b .eql (n1 .len (x 1)) (i 0),false)] (some 17)
 (.call false) (c3 (.cst (.func (.func 68) #[] #[])) (n1 (.ld 5 true) (x 2)) (b .add (n1 .len (x 1)) (ld (fa 3 (x 2)))))) (.cond (p (x 16) (.cst (.bool true))
 (n1 (.un .not) (x 17))) (q (s [(4,i 7),(3,.cst (.slice none 0 0))]) .ret) .skip)) (q (q (cl 18 69 (c1 (n1 (.ld 5 true) (x 2)))) (s [(6,ix 1 (x 18)),(5,
 ix 0 (x 18))])) (q (.cond (b .neq (x 6) (i 0)) (q (s [(4,x 6),(3,.cst (.slice none 0 0))]) .ret) .skip) (q (s [(7,b .add (n1 .len (x 1)) (ld (fa 3 (x
 2))))]) (q (q (h 19 (.mkSl [.int .i64 0]) (c2 (x 7) (x 7))) (s [(8,x 19)])) (q (q (s [(22,i 0),(21,n1 .len (x 1)),(20,x 1)]) (.block 0 (.loop (q (.cond
 (b .lss (x 22) (x 21)) .skip (.exit 0)) (q (.block 1 (q (s [(10,ld (n2 (.iAddr 1) (x 20) (x 22))),(9,x 22)]) (.hv [] [] [] none (.st 1) (c2 (n2 (.iAddr 1)
 (x 8) (b .sub (b .sub (x 7) (i 1)) (x 9))) (x 10))))) (s [(22,b .add (x 22) (i 1))])))))) (q (q (.hv [(25,x 5),(23,n1 (.ld 3 true) (fa 0 (x 2)))] [] []
 (some 24) (.callK 1) (c3 (fa 0 (x 2)) (.cst (.func (.func 71) #[] #[])) (x 8))) (q (h 26 .callC (c (.cst (.func (.func 70) #[] #[])) (c3 (x 23) (x 24) (x
 25)))) (.sets [(6,ix 2 (x 26)),(11,ix 1 (x 26))] [ix 0 (x 26)]))) (q (.cond (b .neq (x 6) (i 0)) (q (s [(4,x 6),(3,.cst (.slice none 0 0))]) .ret)
 .skip) (q (q (h 27 (.mkSl [.int .i64 0]) (c2 (x 7) (x 7))) (s [(12,x 27)])) (q (.hv [] [] [] none (.cpy 1) (c2 (x 12) (x 1))) (q (q (s [(30,i 0),(29,n1
 .len (x 11)),(28,x 11)]) (.block 2 (.loop (q (.cond (b .lss (x 30) (x 29)) .skip (.exit 2)) (q (.block 3 (q (s [(14,ld (n2 (.iAddr 1) (x 28) (x 30))),(13,
 x 30)]) (q (q (.hv [(32,b .sub (b .sub (x 7) (i 1)) (x 13)),(31,x 12)] [] [] (some 33) (.call false) (c (.cst (.func (.func 72) #[] #[])) (c3 (n1 (.ld 3
 true) (fa 0 (x 2))) (i 0) (x 14)))) (q (.hv [(34,ix 1 (x 33))] [] [] none (.st 1) (c2 (n2 (.iAddr 1) (x 31) (x 32)) (ix 0 (x 33)))) (s [(6,x 34)]))) (.cond
 (b .neq (x 6) (i 0)) (q (s [(4,x 6),(3,.cst (.slice none 0 0))]) .ret) .skip)))) (s [(30,b .add (x 30) (i 1))])))))) (q (s [(4,i 0),(3,x 12)])
 .ret)))))))))))))
def cf34:CF:=⟨2,35,[(.var 3),(.var 4)],bd34,.plain⟩
def tr34:List Nat:=[0,1,2,4,5,6,7,8,9,10,11,13,14,15,16,19,24,31,36,48,49,50,51,66,68,69,70,78,82,83,84,90,94,98,100]
def bd35:Stm:=
 q (q (h 3 .box (c1 (x 2))) (h 4 (.alloc [.int .i64 0,.int .i64 0,.slice none 0 0]) .nil)) (q (q (cl 16 23 .nil) (s [(5,x 16)])) (q (q (.hv [(17,n2 (.build
 [.int .i64 0,.int .i64 0,.slice none 0 0] [(0,1),(1,1)]) (b .add (b .mul (i 17) (ld (fa 0 (x 3)))) (i 69)) (x 1))] [] [] (some 6) (.alloc [.int .i64 0,
 .int .i64 0,.slice none 0 0]) .nil) (.hv [] [] [] none (.st 3) (c2 (x 6) (x 17)))) (q (q (h 18 (.mkSl [.bool false]) (c2 (i 0) (b .mul (ld (fa 0 (x 6))) (ld
 (fa 1 (x 6)))))) (.hv [] [] [] none (.st 1) (c2 (fa 2 (x 6)) (x 18)))) (q (q (cl 19 44 .nil) (q (cl 20 45 .nil) (s [(8,x 20),(7,x 19)]))) (q (q (s [(22,i
 0),(21,x 1)]) (.block 0 (.loop (q (.cond (b .lss (x 22) (x 21)) .skip (.exit 0)) (q (.block 1 (q (s [(9,x 22)]) (q (q (cl 23 15 (c (x 9) (c3 (x 1) (ld (fa
 0 (x 3))) (ld (fa 1 (x 3)))))) (.sets [(11,ix 1 (x 23)),(10,ix 0 (x 23))] [ix 2 (x 23)])) (q (q (h 24 (.bSl [.int .i64 0] 1 [0]) (c1 (x 10))) (q (h 25
 (.app 1 [.int .i64 0]) (c2 (x 24) (.node (.sl 1 true true false) (c3 (x 0) (b .mul (x 9) (ld (fa 0 (x 3)))) (b .mul (b .add (x 9) (i 1)) (ld (fa 0 (x
 3)))))))) (s [(12,x 25)]))) (q (q (.hv [(26,x 12)] [] [] (some 27) (.bSl [.int .i64 0] 1 [0]) (c1 (x 11))) (q (h 28 (.app 1 [.int .i64 0]) (c2 (x 26) (x
 27))) (s [(12,x 28)]))) (q (q (h 29 (.app 1 [.bool false]) (c2 (ld (fa 2 (x 6))) (x 7))) (.hv [] [] [] none (.st 1) (c2 (fa 2 (x 6)) (x 29)))) (q (q (s [(32,
 i 0),(31,n1 .len (x 12)),(30,x 12)]) (.block 2 (.loop (q (.cond (b .lss (x 32) (x 31)) .skip (.exit 2)) (q (.block 3 (q (s [(13,ld (n2 (.iAddr 1) (x 30)
 (x 32)))]) (q (q (cl 33 24 (c3 (x 5) (b .mul (i 3) (b .rem (x 9) (i 3))) (x 13))) (s [(35,i 0),(34,n1 .len (x 33))])) (.block 4 (.loop (q (.cond (b .lss (x
 35) (x 34)) .skip (.exit 4)) (q (.block 5 (q (s [(15,ld (n2 (.iAddr 1) (x 33) (x 35))),(14,x 35)]) (q (.hv [(39,x 15),(37,ld (fa 2 (x 6))),(36,fa 2 (x
 6))] [] [] (some 38) (.bSl [.bool false] 1 [0]) (c1 (b .eql (b .rem (x 14) (i 2)) (i 0)))) (q (h 40 (.callK 1) (c (x 36) (c3 (.cst (.func (.func 73) #[] #[]))
 (x 38) (x 39)))) (q (h 41 (.app 1 [.bool false]) (c2 (x 37) (x 40))) (.hv [] [] [] none (.st 1) (c2 (fa 2 (x 6)) (x 41)))))))) (s [(35,b .add (x 35) (i
 1))])))))))) (s [(32,b .add (x 32) (i 1))])))))) (q (h 42 (.app 1 [.bool false]) (c2 (ld (fa 2 (x 6))) (x 8))) (.hv [] [] [] none (.st 1) (c2 (fa 2 (x 6)) (x
 42))))))))))) (s [(22,b .add (x 22) (i 1))])))))) (q (.hv [] [] [] none (.st 3) (c2 (x 4) (n1 (.ld 3 true) (x 6)))) .ret))))))
def cf35:CF:=⟨3,43,[(.node (.ld 3 true) (.cons (.var 4) .nil))],bd35,.plain⟩
def tr35:List Nat:=[0,1,2,5,6,7,8,9,10,11,12,13,15,17,18,19,20,26,32,34,35,36,37,47,52,64,65,67,68,72,74,75,76,85,86,87,92,93,97,98,99,100,107]
def bd43:Stm:=
 q (q (h 1 .box (c1 (x 0))) (s [(2,.cst (.bool false))])) (q (.cond (p (p (p (b .lss (ld (fa 0 (x 1))) (i 1)) (.cst (.bool true)) (b .gtr (ld (fa 0 (x 1))) (i
 4096))) (.cst (.bool true)) (b .lss (ld (fa 1 (x 1))) (i 1))) (.cst (.bool true)) (b .gtr (ld (fa 1 (x 1))) (i 4096))) (q (s [(2,.cst (.bool false))]) .ret)
 .skip) (q (s [(2,p (b .leq (b .mul (ld (fa 0 (x 1))) (ld (fa 1 (x 1)))) (i 4194304)) (b .eql (n1 .len (ld (fa 2 (x 1)))) (b .mul (ld (fa 0 (x 1))) (ld (fa 1
 (x 1))))) (.cst (.bool false)))]) .ret))
def cf43:CF:=⟨1,3,[(.var 2)],bd43,.plain⟩
def tr43:List Nat:=[0,1,2]
def bd44:Stm:=
 q (s [(0,.cst (.slice none 0 0))]) (q (q (h 2 (.bSl [.int .i64 0] 7 [0,1,2,3,4,5,6]) (c (i 8) (c (i 1) (c (i 1) (c (i 1) (c3 (i 1) (i 1) (i 1))))))) (q
 (cl 3 85 (c1 (x 2))) (.sets [(1,ix 0 (x 3))] [ix 1 (x 3)]))) (q (q (h 4 (.appN 1 [.bool false]) (c2 (x 1) (i 3))) (s [(0,x 4)])) .ret))
def cf44:CF:=⟨0,5,[(.var 0)],bd44,.plain⟩
def tr44:List Nat:=[0,1,4,5,9]
def bd45:Stm:=
 q (s [(0,.cst (.slice none 0 0))]) (q (q (h 2 (.bSl [.int .i64 0] 9 [0,1,2,3,4,5,6,7,8]) (c (i 7) (c (i 1) (c (i 1) (c (i 3) (c (i 1) (c (i 1) (c3 (i
 1) (i 2) (i 1))))))))) (q (cl 3 85 (c1 (x 2))) (.sets [(1,ix 0 (x 3))] [ix 1 (x 3)]))) (q (s [(0,x 1)]) .ret))
def cf45:CF:=⟨0,4,[(.var 0)],bd45,.plain⟩
def tr45:List Nat:=[0,1,4,5]
def bd46:Stm:=
 q (s [(4,.cst .nilIface)]) (q (s [(5,b .sub (n1 .len (x 1)) (n1 .len (x 3)))]) (q (q (cl 14 86 (c2 (n2 (.sl 1 false true false) (x 1) (n1 .len (x 2))) (x 2)))
 (q (.hv [(15,n1 (.un .not) (x 14))] [] [(n1 (.un .not) (x 14),false)] (some 16) (.call false) (c3 (.cst (.func (.func 86) #[] #[])) (n2 (.sl 1 true false
 false) (x 1) (x 5)) (x 3))) (.cond (p (x 15) (.cst (.bool true)) (n1 (.un .not) (x 16))) (q (s [(4,n1 (.mkI 149) (.node (.build [] []) .nil))]) .ret)
 .skip))) (q (q (cl 17 87 (c2 (x 0) (.node (.sl 1 true true false) (c3 (x 1) (i 17) (i 34))))) (s [(8,ix 2 (x 17)),(7,ix 1 (x 17)),(6,ix 0 (x 17))])) (q
 (q (cl 18 87 (c2 (x 0) (.node (.sl 1 true true false) (c3 (x 1) (b .sub (x 5) (i 17)) (x 5))))) (s [(11,ix 2 (x 18)),(10,ix 1 (x 18)),(9,ix 0 (x 18))]))
 (q (q (.hv [(19,.node (.build [.int .i64 0,.int .i64 0,.int .i64 0,.slice none 0 0] [(1,1),(2,1),(3,1)]) (c3 (i (-1)) (i (-1)) (.node (.sl 1 true
 true false) (c3 (x 1) (i 34) (b .sub (x 5) (i 17))))))] [] [] (some 12) (.alloc [.int .i64 0,.int .i64 0,.int .i64 0,.slice none 0 0]) .nil) (.hv [] [] []
 none (.st 4) (c2 (x 12) (x 19)))) (q (.cond (x 8) (q (.hv [(20,b .rem (x 7) (i 30))] [] [] none (.st 1) (c2 (fa 0 (x 12)) (b .add (b .mul (i 3) (b .quo (x 7)
 (i 30))) (b .quo (x 6) (i 3))))) (.hv [] [] [] none (.st 1) (c2 (fa 1 (x 12)) (x 20)))) .skip) (q (.cond (x 11) (q (s [(13,b .add (b .mul (i 3) (b .quo (x
 10) (i 30))) (b .quo (x 9) (i 3)))]) (q (.cond (p (x 8) (b .neq (x 13) (ld (fa 0 (x 12)))) (.cst (.bool false))) (q (s [(4,n1 (.mkI 149) (.node (.build []
 []) .nil))]) .ret) .skip) (q (.hv [(21,b .rem (x 10) (i 30))] [] [] none (.st 1) (c2 (fa 0 (x 12)) (x 13))) (.hv [] [] [] none (.st 1) (c2 (fa 2 (x 12)) (x
 21)))))) .skip) (q (.cond (p (n1 (.un .not) (x 8)) (n1 (.un .not) (x 11)) (.cst (.bool false))) (q (s [(4,n1 (.mkI 149) (.node (.build [] []) .nil))]) .ret)
 .skip) (q (s [(4,n1 (.mkI 153) (n1 (.ld 4 true) (x 12)))]) .ret)))))))))
def cf46:CF:=⟨4,22,[(.var 4)],bd46,.plain⟩
def tr46:List Nat:=[0,1,2,3,8,9,10,11,12,13,14,15,16,17,28,30,35,44,55,63,72,93]
def bd47:Stm:=
 q (s [(4,i 0),(3,i 0),(2,i 0)]) (q (q (h 5 (.alloc (List.replicate 30 (.int .i64 0))) .nil) (h 6 (.alloc (List.replicate 30 (.int .i64 0))) .nil)) (q (q (s
 [(17,i 0),(16,n1 .len (x 0)),(15,x 0)]) (.block 0 (.loop (q (.cond (b .lss (x 17) (x 16)) .skip (.exit 0)) (q (.block 1 (q (s [(7,ld (n2 (.iAddr 1) (x
 15) (x 17)))]) (q (s [(18,x 7)]) (.block 2 (q (s [(20,ix 0 (n1 (.tas 153 [.int .i64 0,.int .i64 0,.int .i64 0,.slice none 0 0]) (x 18))),(19,ix 1 (n1
 (.tas 153 [.int .i64 0,.int .i64 0,.int .i64 0,.slice none 0 0]) (x 18)))]) (.cond (x 19) (q (q (h 8 (.alloc [.int .i64 0,.int .i64 0,.int .i64 0,.slice
 none 0 0]) .nil) (.hv [] [] [] none (.st 4) (c2 (x 8) (x 20)))) (q (s [(21,b .rem (ld (fa 0 (x 8))) (i 3))]) (.block 3 (.cond (b .eql (x 21) (i 0)) (.hv []
 [] [] none (.call false) (c3 (.cst (.func (.func 88) #[] #[])) (x 5) (ld (fa 1 (x 8))))) (.cond (b .eql (x 21) (i 1)) (q (.hv [] [] [] none (.call false) (c3
 (.cst (.func (.func 88) #[] #[])) (x 6) (ld (fa 1 (x 8))))) (.hv [] [] [] none (.call false) (c3 (.cst (.func (.func 88) #[] #[])) (x 5) (ld (fa 2 (x 8))))))
 (.cond (b .eql (x 21) (i 2)) (.hv [] [] [] none (.call false) (c3 (.cst (.func (.func 88) #[] #[])) (x 6) (ld (fa 2 (x 8))))) .skip)))))) (q (s [(23,ix 0 (n1
 (.tas 149 []) (x 18))),(22,ix 1 (n1 (.tas 149 []) (x 18)))]) (.cond (x 22) (q (h 9 (.alloc []) .nil) (.hv [] [] [] none (.st 0) (c2 (x 9) (x 23))))
 .skip)))))))) (s [(17,b .add (x 17) (i 1))])))))) (q (q (cl 24 89 (c1 (x 5))) (s [(11,ix 1 (x 24)),(10,ix 0 (x 24))])) (q (q (cl 25 89 (c1 (x 6))) (s
 [(13,ix 1 (x 25)),(12,ix 0 (x 25))])) (q (s [(2,b .add (b .add (b .mul (i 3) (x 10)) (b .rem (x 12) (i 3))) (i 1))]) (q (s [(3,b .quo (x 12) (i 3))]) (q
 (.cond (p (p (p (n1 (.un .not) (x 11)) (.cst (.bool true)) (n1 (.un .not) (x 13))) (.cst (.bool true)) (b .lss (x 2) (i 3))) (.cst (.bool true)) (b .gtr (x 3)
 (i 8))) (q (s [(4,i 21),(3,i 0),(2,i 0)]) .ret) .skip) (q (q (s [(14,b .mul (x 2) (x 1))]) (q (.hv [(26,x 14)] [] [] (some 27) (.call false) (c2 (.cst
 (.func (.func 32) #[] #[])) (x 3))) (.cond (p (b .leq (x 26) (x 27)) (.cst (.bool true)) (b .gtr (x 14) (i 928))) (q (s [(4,i 21),(3,i 0),(2,i 0)]) .ret)
 .skip))) (q (s [(4,i 0),(3,x 3),(2,x 2)]) .ret)))))))))
def cf47:CF:=⟨2,28,[(.var 2),(.var 3),(.var 4)],bd47,.plain⟩
def tr47:List Nat:=[0,1,4,5,6,7,8,10,11,12,13,14,15,16,17,18,19,20,24,26,27,30,50,51,54,58,86,88]
def bd48:Stm:=
 q (s [(5,.cst (.slice none 0 0)),(4,.cst (.slice none 0 0))]) (q (q (h 14 (.mkSl [.int .i64 0]) (c2 (b .mul (x 2) (x 3)) (b .mul (x 2) (x 3)))) (s [(4,x
 14)])) (q (q (s [(16,i 0),(15,x 2)]) (.block 0 (.loop (q (.cond (b .lss (x 16) (x 15)) .skip (.exit 0)) (q (.block 1 (q (q (.hv [(17,x 16)] [] [] (some 6)
 (.alloc [.int .i64 0]) .nil) (.hv [] [] [] none (.st 1) (c2 (x 6) (x 17)))) (q (q (cl 18 90 (c2 (x 1) (n1 (.mkF 91 0) (x 6)))) (s [(7,x 18)])) (q (s [(20,i
 0),(19,x 3)]) (.block 2 (.loop (q (.cond (b .lss (x 20) (x 19)) .skip (.exit 2)) (q (.block 3 (q (s [(8,x 20)]) (q (s [(9,b .add (b .mul (ld (x 6)) (x 3))
 (x 8))]) (q (s [(11,.cst (.bool false)),(10,i 0)]) (q (.cond (b .geq (x 7) (i 0)) (q (q (.hv [(22,ix 1 (n1 (.tas 153 [.int .i64 0,.int .i64 0,.int .i64
 0,.slice none 0 0]) (ld (n2 (.iAddr 1) (x 1) (x 7))))),(21,ix 0 (n1 (.tas 153 [.int .i64 0,.int .i64 0,.int .i64 0,.slice none 0 0]) (ld (n2 (.iAddr 1)
 (x 1) (x 7)))))] [] [] (some 12) (.alloc [.int .i64 0,.int .i64 0,.int .i64 0,.slice none 0 0]) .nil) (q (.hv [] [] [] none (.st 4) (c2 (x 12) (x 21))) (s
 [(13,x 22)]))) (.cond (x 13) (q (cl 23 92 (c3 (n1 (.ld 4 true) (x 12)) (x 0) (x 8))) (s [(11,ix 1 (x 23)),(10,ix 0 (x 23))])) .skip)) .skip) (.cond (x 11)
 (.hv [] [] [] none (.st 1) (c2 (n2 (.iAddr 1) (x 4) (x 9)) (x 10))) (q (.hv [(24,x 5)] [] [] (some 25) (.bSl [.int .i64 0] 1 [0]) (c1 (x 9))) (q (h 26 (.app
 1 [.int .i64 0]) (c2 (x 24) (x 25))) (s [(5,x 26)]))))))))) (s [(20,b .add (x 20) (i 1))]))))))))) (s [(16,b .add (x 16) (i 1))])))))) (q (s [(5,x 5),(4,
 x 4)]) .ret)))
def cf48:CF:=⟨4,27,[(.var 4),(.var 5)],bd48,.plain⟩
def tr48:List Nat:=[0,1,2,3,8,9,10,11,12,13,14,15,16,17,21,22,23,25,28,29,30,46,47,53,61,63,64]
def bd49:Stm:=
 q (q (h 3 .box (c1 (x 0))) (q (h 4 (.alloc [.slice none 0 0,.slice none 0 0]) .nil) (s [(5,i 0)]))) (q (q (cl 11 67 (c2 (n1 (.ld 5 true) (x 3)) (x 1))) (.cond
 (n1 (.un .not) (x 11)) (q (q (.hv [] [] [] none (.st 2) (c2 (x 4) (.node (.build [.slice none 0 0,.slice none 0 0] []) .nil))) (s [(5,i 1)])) .ret) .skip))
 (q (q (s [(14,i 0),(13,n1 .len (x 2)),(12,x 2)]) (.block 0 (.loop (q (.cond (b .lss (x 14) (x 13)) .skip (.exit 0)) (q (.block 1 (q (s [(6,ld (n2
 (.iAddr 1) (x 12) (x 14)))]) (.cond (p (b .lss (x 6) (i 0)) (.cst (.bool true)) (b .geq (x 6) (n1 .len (x 1)))) (q (q (.hv [] [] [] none (.st 2) (c2 (x 4)
 (.node (.build [.slice none 0 0,.slice none 0 0] []) .nil))) (s [(5,i 1)])) .ret) .skip))) (s [(14,b .add (x 14) (i 1))])))))) (q (q (cl 15 68 (c2 (n1 (.ld
 5 true) (x 3)) (n1 .len (x 1)))) (.cond (n1 (.un .not) (x 15)) (q (q (.hv [] [] [] none (.st 2) (c2 (x 4) (.node (.build [.slice none 0 0,.slice none 0 0]
 []) .nil))) (s [(5,i 7)])) .ret) .skip)) (q (q (.hv [(20,n1 .len (x 1)),(18,x 1),(17,n1 (.ld 5 true) (x 3))] [] [] (some 16) (.callK 1) (c3 (x 3) (.cst
 (.func (.func 93) #[] #[])) (n1 (.ld 3 true) (fa 0 (x 3))))) (q (h 19 (.app 1 [.int .i64 0]) (c2 (.cst (.slice none 0 0)) (x 18))) (q (h 21 (.mkSl [.bool
 false]) (c2 (x 20) (x 20))) (q (h 22 .box (c1 (.node (.build [.int .i64 0,.int .i64 0,.slice none 0 0,.slice none 0 0,.int .i64 0,.int .i64 0,.int .i64
 0,.int .i64 0,.int .i64 0,.slice none 0 0,.slice none 0 0,.int .i64 0,.slice none 0 0,.slice none 0 0,.slice none 0 0,.slice none 0 0] [(0,4),(4,
 5),(9,1),(10,1)]) (c (x 16) (c3 (x 17) (x 19) (x 21)))))) (q (s [(7,x 22)]) (.dist (.cst (.slice none 0 0)) (x 3))))))) (q (q (s [(25,i 0),(24,n1 .len
 (x 2)),(23,x 2)]) (.block 2 (.loop (q (.cond (b .lss (x 25) (x 24)) .skip (.exit 2)) (q (.block 3 (q (s [(8,ld (n2 (.iAddr 1) (x 23) (x 25)))]) (.cond (n1
 (.un .not) (ld (n2 (.iAddr 1) (ld (fa 10 (n1 .nilChk (x 7)))) (x 8)))) (q (.hv [] [] [] none (.st 1) (c2 (n2 (.iAddr 1) (ld (fa 10 (n1 .nilChk (x 7)))) (x 8))
 (.cst (.bool true)))) (.hv [] [] [] none (.st 1) (c2 (fa 11 (n1 .nilChk (x 7))) (b .add (ld (fa 11 (n1 .nilChk (x 7)))) (i 1))))) .skip))) (s [(25,b .add (x
 25) (i 1))])))))) (q (q (cl 26 94 (c1 (x 7))) (.cond (n1 (.un .not) (x 26)) (q (q (.hv [] [] [] none (.st 2) (c2 (x 4) (.node (.build [.slice none 0 0,.slice
 none 0 0] []) .nil))) (s [(5,i 17)])) .ret) .skip)) (q (s [(9,.cst (.slice none 0 0))]) (q (q (s [(28,i 0),(27,n1 .len (x 1))]) (.block 4 (.loop (q
 (.cond (b .lss (x 28) (x 27)) .skip (.exit 4)) (q (.block 5 (q (s [(10,x 28)]) (.cond (b .neq (ld (n2 (.iAddr 1) (ld (fa 9 (n1 .nilChk (x 7)))) (x 10))) (ld
 (n2 (.iAddr 1) (x 1) (x 10)))) (q (.hv [(29,x 9)] [] [] (some 30) (.bSl [.int .i64 0] 1 [0]) (c1 (x 10))) (q (h 31 (.app 1 [.int .i64 0]) (c2 (x 29) (x 30)))
 (s [(9,x 31)]))) .skip))) (s [(28,b .add (x 28) (i 1))])))))) (q (q (.hv [] [] [] none (.st 2) (c2 (x 4) (n2 (.build [.slice none 0 0,.slice none 0 0] [(0,
 1),(1,1)]) (ld (fa 9 (n1 .nilChk (x 7)))) (x 9)))) (s [(5,i 0)])) .ret)))))))))
def cf49:CF:=⟨3,32,[(.node (.ld 2 true) (.cons (.var 4) .nil)),(.var 5)],bd49,.plain⟩
def tr49:List Nat:=[0,1,2,3,6,7,9,10,12,13,14,17,20,21,22,39,44,45,46,47,49,50,52,53,54,55,82,86,87,102,104,105]
def bd50:Stm:=
 q (q (h 1 (.alloc [.slice none 0 0]) .nil) (h 2 (.alloc [.int .i64 0]) .nil)) (q (.cond (b .gtr (n1 .len (x 0)) (i 8192)) (q (q (.hv [] [] [] none (.st 1) (c2
 (x 1) (.cst (.slice none 0 0)))) (.hv [] [] [] none (.st 1) (c2 (x 2) (i 4)))) .ret) .skip) (q (q (s [(7,i 0),(6,n1 .len (x 0)),(5,x 0)]) (.block 0
 (.loop (q (.cond (b .lss (x 7) (x 6)) .skip (.exit 0)) (q (.block 1 (q (s [(3,ld (n2 (.iAddr 1) (x 5) (x 7)))]) (.cond (p (b .lss (x 3) (i 0)) (.cst (.bool
 true)) (b .gtr (x 3) (i 928))) (q (q (.hv [] [] [] none (.st 1) (c2 (x 1) (.cst (.slice none 0 0)))) (.hv [] [] [] none (.st 1) (c2 (x 2) (i 3)))) .ret)
 .skip))) (s [(7,b .add (x 7) (i 1))])))))) .skip))
def md50:Stm:=
 s [(8,n2 (.mkF 95 0) (x 1) (x 2))]
def rt50:Stm:=
 q (q (.hv [(9,n1 (.build [.slice none 0 0,.int .i64 0,.int .i64 0,.int .i64 0,.slice none 0 0] [(0,1)]) (x 0))] [] [] (some 4) (.alloc [.slice none 0 0,
 .int .i64 0,.int .i64 0,.int .i64 0,.slice none 0 0]) .nil) (.hv [] [] [] none (.st 5) (c2 (x 4) (x 9)))) (q (.block 2 (.loop (q (.cond (b .lss (ld (fa 1
 (x 4))) (n1 .len (x 0))) .skip (.exit 2)) (.block 3 (.hv [] [] [] none (.call false) (c2 (.cst (.func (.func 96) #[] #[])) (x 4))))))) (q (q (.hv [] [] []
 none (.st 1) (c2 (x 1) (ld (fa 4 (x 4))))) (.hv [] [] [] none (.st 1) (c2 (x 2) (i 0)))) .ret))
def cf50:CF:=⟨1,10,[(.node (.ld 1 false) (.cons (.var 1) .nil)),(.node (.ld 1 false) (.cons (.var 2) .nil))],bd50,.dfr md50 8 rt50⟩
def tr50:List Nat:=[0,2,3,5,6,10,11,12,23,25]
def bd51:Stm:=
 q (s [(3,.cst (.bool false)),(2,i 0)]) (q (s [(4,n1 .len (x 0))]) (q (s [(6,x 4),(5,i 0)]) (q (.block 0 (.loop (q (.cond (b .lss (x 5) (x 6)) .skip
 (.exit 0)) (.block 1 (q (s [(7,n1 (.cvt .i64) (b .shr (n1 (.cvt .u64) (b .add (x 5) (x 6))) (.cst (.int .u64 1))))]) (q (cl 8 97 (c2 (ld (n2 (.iAddr 1) (x 0)
 (x 7))) (x 1))) (.cond (x 8) (s [(5,b .add (x 7) (i 1))]) (s [(6,x 7)])))))))) (q (q (.hv [(11,p (b .lss (x 5) (x 4)) (b .eql (ld (n2 (.iAddr 1) (x 0) (x
 5))) (x 1)) (.cst (.tuple #[]))),(10,b .lss (x 5) (x 4)),(9,x 5)] [] [(b .lss (x 5) (x 4),true),(b .eql (ld (n2 (.iAddr 1) (x 0) (x 5))) (x 1),false)]
 (some 12) (.call false) (c2 (.cst (.func (.func 98) #[] #[])) (ld (n2 (.iAddr 1) (x 0) (x 5))))) (q (.hv [(13,p (x 11) (.cst (.tuple #[])) (x 12))] [] [(x
 11,false),(x 12,true)] (some 14) (.call false) (c2 (.cst (.func (.func 98) #[] #[])) (x 1))) (.sets [(3,p (x 10) (p (x 11) (.cst (.bool true)) (p (x 13)
 (x 14) (.cst (.bool false)))) (.cst (.bool false))),(2,x 9)] [p (x 11) .nil (p (x 13) (x 14) (.cst (.bool false)))]))) .ret))))
def cf51:CF:=⟨2,15,[(.var 2),(.var 3)],bd51,.plain⟩
def tr51:List Nat:=[0,1,4,5,6,7,8,9,27,31,35,42,47,48,50]
def bd59:Stm:=
 q (s [(5,i 0)]) (q (.cond (b .gtr (x 4) (x 2)) (q (s [(5,i 0)]) .ret) .skip) (q (q (.hv [(7,n2 (.iAddrA 18 9) (n2 (.iAddrA 9 162) (n1 .nilChk (x 0)) (b .add
 (x 1) (i 1))) (b .sub (x 2) (x 4)))] [] [] (some 6) .callC (c (.cst (.func (.func 60) #[] #[])) (c3 (x 1) (x 3) (x 4)))) (s [(5,ld (n2 (.iAddrA 9 1) (x 7) (x
 6)))])) .ret))
def cf59:CF:=⟨5,8,[(.var 5)],bd59,.plain⟩
def tr59:List Nat:=[0,1,2,3,4,10,23,26]
def bd60:Stm:=
 q (s [(3,i 0)]) (q (q (s [(4,x 0)]) (.block 0 (q (q (s [(5,b .eql (x 4) (i 0))]) (.cond (x 5) .skip (s [(5,b .eql (x 4) (i 4))]))) (.cond (x 5) (q (s [(3,b
 .rem (b .add (b .sub (x 1) (x 2)) (i 9)) (i 9))]) .ret) (q (q (s [(6,b .eql (x 4) (i 2))]) (.cond (x 6) .skip (s [(6,b .eql (x 4) (i 6))]))) (.cond (x 6) (q
 (s [(3,b .rem (b .add (x 1) (x 2)) (i 9))]) .ret) .skip)))))) (q (s [(3,x 1)]) .ret))
def cf60:CF:=⟨3,7,[(.var 3)],bd60,.plain⟩
def tr60:List Nat:=[0,1,2,6,7,8,16]
def bd61:Stm:=
 q (s [(2,i 0)]) (q (.cond (b .eql (b .rem (x 0) (i 2)) (i 1)) (q (s [(2,i 0)]) .ret) .skip) (q (.cond (b .eql (b .rem (x 0) (i 4)) (i 0)) (q (s [(2,x 1)])
 .ret) .skip) (q (s [(2,b .sub (i 9) (x 1))]) .ret)))
def cf61:CF:=⟨2,3,[(.var 2)],bd61,.plain⟩
def tr61:List Nat:=[0,1,4]
def bd62:Stm:=
 q (s [(1,.cst (.pointer none))]) (q (s [(2,b .add (n1 .len (x 0)) (i 1))]) (q (q (.hv [(16,x 2),(14,x 2),(12,x 2),(10,x 2),(8,x 2),(6,x 2),(5,x
 0)] [] [] (some 18) .mkMap .nil) (q (h 7 (.mkSl [.int .i64 0,.int .i64 0,.int .i64 0,.int .i64 0,.int .i64 0,.int .i64 0,.int .i64 0,.int .i64 0,.int
 .i64 0,.int .i64 0,.int .i64 0,.int .i64 0]) (c2 (x 6) (x 6))) (q (h 9 (.mkSl [.int .i64 0]) (c2 (x 8) (x 8))) (q (h 11 (.mkSl [.int .i64 0]) (c2 (x 10) (x
 10))) (q (h 13 (.mkSl [.int .i64 0,.int .i64 0,.int .i64 0,.int .i64 0,.int .i64 0,.int .i64 0]) (c2 (x 12) (x 12))) (q (h 15 (.mkSl [.int .i64 0]) (c2
 (x 14) (x 14))) (q (h 17 (.mkSl [.int .i64 0]) (c2 (x 16) (x 16))) (q (h 19 .box (c1 (.node (.build [.slice none 0 0,.slice none 0 0,.slice none 0 0,.slice
 none 0 0,.slice none 0 0,.slice none 0 0,.slice none 0 0,.map none] [(0,1),(1,1),(2,1),(3,1),(4,1),(5,1),(6,1),(7,1)]) (c (x 5) (c (x 7) (c
 (x 9) (c (x 11) (c (x 13) (c3 (x 15) (x 17) (x 18)))))))))) (s [(3,x 19)]))))))))) (q (q (s [(4,b .sub (x 2) (i 1))]) (.block 0 (.loop (q (.cond (b .geq (x
 4) (i 0)) .skip (.exit 0)) (q (.block 1 (q (.hv [] [] [] none (.call false) (c3 (.cst (.func (.func 106) #[] #[])) (x 3) (x 4))) (.hv [] [] [] none (.call
 false) (c3 (.cst (.func (.func 107) #[] #[])) (x 3) (x 4))))) (s [(4,b .sub (x 4) (i 1))])))))) (q (s [(1,x 3)]) .ret))))
def cf62:CF:=⟨1,20,[(.var 1)],bd62,.plain⟩
def tr62:List Nat:=[0,2,3,4,5,9,10,11,12,13,14,15,16,17,18,19,20,21,22,24]
def bd63:Stm:=
 q (q (h 2 .box (c1 (x 1))) (s [(3,i 0)])) (q (q (s [(4,ld (fa 0 (x 2)))]) (.block 0 (.cond (b .eql (x 4) (i 0)) (q (s [(3,ld (n2 (.iAddrA 12 1) (n2 (.iAddr
 12) (ld (fa 1 (n1 .nilChk (x 0)))) (ld (fa 1 (x 2)))) (ld (fa 2 (x 2)))))]) .ret) (.cond (b .eql (x 4) (i 1)) (q (s [(3,b .add (i 1) (ld (n2 (.iAddrA 12 1)
 (n2 (.iAddr 12) (ld (fa 1 (n1 .nilChk (x 0)))) (b .add (ld (fa 1 (x 2))) (i 1))) (ld (fa 2 (x 2))))))]) .ret) (.cond (b .eql (x 4) (i 2)) (q (.cond (b .gtr
 (ld (fa 2 (x 2))) (i 0)) (q (s [(3,b .add (b .sub (i 5) (ld (fa 2 (x 2)))) (ld (n2 (.iAddr 1) (ld (fa 2 (n1 .nilChk (x 0)))) (b .add (ld (fa 1 (x 2))) (i
 6)))))]) .ret) .skip) (q (s [(3,ld (n2 (.iAddr 1) (ld (fa 2 (n1 .nilChk (x 0)))) (ld (fa 1 (x 2)))))]) .ret)) (.cond (b .eql (x 4) (i 3)) (q (.cond (b .gtr
 (ld (fa 2 (x 2))) (i 0)) (q (s [(3,b .add (b .sub (i 5) (ld (fa 2 (x 2)))) (ld (n2 (.iAddr 1) (ld (fa 3 (n1 .nilChk (x 0)))) (b .add (ld (fa 1 (x 2))) (i
 6)))))]) .ret) .skip) (q (s [(3,ld (n2 (.iAddr 1) (ld (fa 3 (n1 .nilChk (x 0)))) (ld (fa 1 (x 2)))))]) .ret)) (.cond (b .eql (x 4) (i 4)) (q (s [(3,ld (n2
 (.iAddrA 6 1) (n2 (.iAddr 6) (ld (fa 4 (n1 .nilChk (x 0)))) (ld (fa 1 (x 2)))) (ld (fa 2 (x 2)))))]) .ret) (.cond (b .eql (x 4) (i 5)) (q (.cond (b .eql (ld
 (fa 2 (x 2))) (i 44)) (q (s [(3,b .add (b .sub (i 15) (ld (fa 3 (x 2)))) (ld (n2 (.iAddr 1) (ld (fa 5 (n1 .nilChk (x 0)))) (b .add (ld (fa 1 (x 2))) (ld (fa
 2 (x 2)))))))]) .ret) .skip) (q (.cond (b .gtr (ld (fa 2 (x 2))) (i 0)) (q (s [(3,b .add (b .sub (b .add (b .quo (ld (fa 2 (x 2))) (i 3)) (i 1)) (ld (fa 3 (x
 2)))) (ld (n2 (.iAddr 1) (ld (fa 6 (n1 .nilChk (x 0)))) (b .add (ld (fa 1 (x 2))) (ld (fa 2 (x 2)))))))]) .ret) .skip) (q (s [(3,ld (n2 (.iAddr 1) (ld (fa 5
 (n1 .nilChk (x 0)))) (ld (fa 1 (x 2)))))]) .ret))) .skip)))))))) (q (s [(3,ld (n2 (.iAddr 1) (ld (fa 6 (n1 .nilChk (x 0)))) (ld (fa 1 (x 2)))))]) .ret))
def cf63:CF:=⟨2,5,[(.var 3)],bd63,.plain⟩
def tr63:List Nat:=[0,1,3,4,6]
def bd64:Stm:=
 q (s [(4,.cst (.slice none 0 0)),(3,i 0)]) (q (s [(5,i 1073741824)]) (q (s [(6,.cst (.slice none 0 0))]) (q (q (h 10 .mkMap .nil) (s [(7,x 10)])) (q (q (s
 [(13,i 0),(12,n1 .len (x 1)),(11,x 1)]) (.block 0 (.loop (q (.cond (b .lss (x 13) (x 12)) .skip (.exit 0)) (q (.block 1 (q (q (.hv [(14,n1 (.ld 4 true)
 (n2 (.iAddr 4) (x 11) (x 13)))] [] [] (some 8) (.alloc [.int .i64 0,.int .i64 0,.int .i64 0,.int .i64 0]) .nil) (.hv [] [] [] none (.st 4) (c2 (x 8) (x
 14)))) (q (q (cl 15 108 (c3 (x 0) (n1 (.ld 4 true) (x 8)) (x 2))) (s [(17,i 0),(16,n1 .len (x 15))])) (.block 2 (.loop (q (.cond (b .lss (x 17) (x 16))
 .skip (.exit 2)) (q (.block 3 (q (q (.hv [(18,n1 (.ld 5 true) (n2 (.iAddr 5) (x 15) (x 17)))] [] [] (some 9) (.alloc [.int .i64 0,.int .i64 0,.int .i64 0,
 .int .i64 0,.int .i64 0]) .nil) (.hv [] [] [] none (.st 5) (c2 (x 9) (x 18)))) (q (q (.hv [(19,b .gtr (ld (fa 0 (x 9))) (x 5))] [] [(b .gtr (ld (fa 0 (x
 9))) (x 5),false)] (some 20) (.call false) (c3 (.cst (.func (.func 63) #[] #[])) (x 0) (n1 (.ld 4 true) (fa 1 (x 9))))) (.cond (p (x 19) (.cst (.bool true))
 (b .neq (x 20) (x 2))) (.exit 3) .skip)) (q (.cond (b .lss (ld (fa 0 (x 9))) (x 5)) (q (s [(5,ld (fa 0 (x 9)))]) (q (s [(6,.cst (.slice none 0 0))]) (.hv []
 [] [] none .mclr (c1 (x 7))))) .skip) (.cond (n1 (.un .not) (n2 (.mget [1,1,1,1] true (.bool false) false) (x 7) (n1 (.ld 4 true) (fa 1 (x 9))))) (q (.hv
 [] [] [] none (.mset [1,1,1,1] true) (c3 (x 7) (n1 (.ld 4 true) (fa 1 (x 9))) (.cst (.bool true)))) (q (.hv [(21,x 6)] [] [] (some 22) (.bSl [.int .i64 0,
 .int .i64 0,.int .i64 0,.int .i64 0] 1 [0]) (c1 (n1 (.ld 4 true) (fa 1 (x 9))))) (q (h 23 (.app 4 [.int .i64 0,.int .i64 0,.int .i64 0,.int .i64 0]) (c2
 (x 21) (x 22))) (s [(6,x 23)])))) .skip))))) (s [(17,b .add (x 17) (i 1))])))))))) (s [(13,b .add (x 13) (i 1))])))))) (q (s [(4,x 6),(3,x 5)])
 .ret)))))
def cf64:CF:=⟨3,24,[(.var 3),(.var 4)],bd64,.plain⟩
def tr64:List Nat:=[0,1,2,6,7,8,9,10,12,14,15,16,17,18,21,25,26,27,30,35,39,58,61,62]
def bd65:Stm:=
 q (q (h 1 (.alloc [.int .i64 0,.int .i64 0,.int .i64 0]) .nil) (s [(2,i 0)])) (q (.cond (p (b .lss (x 0) (i 2)) (.cst (.bool true)) (b .gtr (x 0) (i 4096)))
 (q (q (.hv [] [] [] none (.st 3) (c2 (x 1) (.node (.build [.int .i64 0,.int .i64 0,.int .i64 0] []) .nil))) (s [(2,i 3)])) .ret) .skip) (q (q (cl 3 109 (c1
 (x 0))) (.cond (n1 (.un .not) (x 3)) (q (q (.hv [] [] [] none (.st 3) (c2 (x 1) (.node (.build [.int .i64 0,.int .i64 0,.int .i64 0] []) .nil))) (s [(2,i
 1)])) .ret) .skip)) (q (.cond (b .eql (x 0) (i 2)) (q (q (cl 4 110 (c2 (i 1) (i 2))) (q (.hv [(5,ix 1 (x 4))] [] [] none (.st 3) (c2 (x 1) (ix 0 (x 4)))) (s
 [(2,x 5)]))) .ret) .skip) (q (q (.hv [] [] [] none (.st 3) (c2 (x 1) (n2 (.build [.int .i64 0,.int .i64 0,.int .i64 0] [(0,1),(1,1)]) (x 0) (x 0)))) (s
 [(2,i 0)])) .ret))))
def cf65:CF:=⟨1,6,[(.node (.ld 3 true) (.cons (.var 1) .nil)),(.var 2)],bd65,.plain⟩
def tr65:List Nat:=[0,2,3,12,17,19]
def bd66:Stm:=
 q (q (h 3 .box (c1 (x 0))) (q (h 4 (.alloc [.int .i64 0,.int .i64 0,.int .i64 0,.int .i64 0,.int .i64 0]) .nil) (s [(5,i 0)]))) (q (q (cl 6 111 (c1 (n1
 (.ld 3 true) (x 3)))) (.cond (n1 (.un .not) (x 6)) (q (q (.hv [] [] [] none (.st 5) (c2 (x 4) (.node (.build [.int .i64 0,.int .i64 0,.int .i64 0,.int .i64
 0,.int .i64 0] []) .nil))) (s [(5,i 1)])) .ret) .skip)) (q (q (cl 7 112 (c3 (n1 (.ld 3 true) (x 3)) (x 1) (x 2))) (.cond (n1 (.un .not) (x 7)) (q (q (.hv []
 [] [] none (.st 5) (c2 (x 4) (.node (.build [.int .i64 0,.int .i64 0,.int .i64 0,.int .i64 0,.int .i64 0] []) .nil))) (s [(5,i 3)])) .ret) .skip)) (q (q
 (.hv [] [] [] none (.st 5) (c2 (x 4) (.node (.build [.int .i64 0,.int .i64 0,.int .i64 0,.int .i64 0,.int .i64 0] [(0,3),(3,1),(4,1)]) (c3 (n1 (.ld 3
 true) (x 3)) (x 1) (x 2))))) (s [(5,i 0)])) .ret)))
def cf66:CF:=⟨3,8,[(.node (.ld 5 true) (.cons (.var 4) .nil)),(.var 5)],bd66,.plain⟩
def tr66:List Nat:=[0,1,2,3,6,7,9,15]
def bd67:Stm:=
 q (q (h 2 .box (c1 (x 0))) (s [(3,.cst (.bool false))])) (q (q (cl 4 111 (c1 (n1 (.ld 3 true) (fa 0 (x 2))))) (q (.hv [(5,x 4)] [] [(x 4,true)] (some 6)
 (.call false) (c (.cst (.func (.func 112) #[] #[])) (c3 (n1 (.ld 3 true) (fa 0 (x 2))) (ld (fa 3 (x 2))) (ld (fa 4 (x 2)))))) (q (.hv [(7,p (x 5) (x 6) (.cst
 (.bool false)))] [] [(p (x 5) (x 6) (.cst (.bool false)),true)] (some 8) (.call false) (c3 (.cst (.func (.func 113) #[] #[])) (n1 (.ld 3 true) (fa 0 (x 2)))
 (x 1))) (s [(3,p (x 7) (x 8) (.cst (.bool false)))])))) .ret)
def cf67:CF:=⟨2,9,[(.var 3)],bd67,.plain⟩
def tr67:List Nat:=[0,1,2,4,7,8,15,17,21]
def bd68:Stm:=
 q (q (h 2 .box (c1 (x 0))) (s [(3,.cst (.bool false))])) (q (s [(3,p (b .gtr (x 1) (ld (fa 3 (x 2)))) (b .lss (x 1) (ld (fa 1 (fa 0 (x 2))))) (.cst (.bool
 false)))]) .ret)
def cf68:CF:=⟨2,4,[(.var 3)],bd68,.plain⟩
def tr68:List Nat:=[0,1,2,4]
def bd69:Stm:=
 q (q (h 1 .box (c1 (x 0))) (s [(3,i 0),(2,.cst (.slice none 0 0))])) (q (q (cl 7 67 (c2 (n1 (.ld 5 true) (x 1)) (.cst (.slice none 0 0)))) (.cond (n1 (.un
 .not) (x 7)) (q (s [(3,i 1),(2,.cst (.slice none 0 0))]) .ret) .skip)) (q (q (cl 8 93 (c1 (n1 (.ld 3 true) (fa 0 (x 1))))) (q (h 4 (.alloc [.int .i64 0,
 .int .i64 0,.slice none 0 0,.slice none 0 0]) .nil) (.hv [] [] [] none (.st 4) (c2 (x 4) (x 8))))) (q (q (h 9 (.mkSl [.int .i64 0]) (c2 (ld (fa 3 (x 1)))
 (ld (fa 3 (x 1))))) (s [(5,x 9)])) (q (q (s [(11,i 0),(10,n1 .len (x 5))]) (.block 0 (.loop (q (.cond (b .lss (x 11) (x 10)) .skip (.exit 0)) (q (.block 1
 (q (s [(6,x 11)]) (q (.hv [(13,x 6),(12,x 5)] [] [] (some 14) (.call false) (c3 (.cst (.func (.func 114) #[] #[])) (n1 (.ld 4 true) (x 4)) (b .add (ld (fa
 4 (x 1))) (x 6)))) (.hv [] [] [] none (.st 1) (c2 (n2 (.iAddr 1) (x 12) (x 13)) (x 14)))))) (s [(11,b .add (x 11) (i 1))])))))) (q (q (cl 15 115 (c2 (n1 (.ld
 3 true) (fa 0 (x 1))) (x 5))) (s [(3,ix 1 (x 15)),(2,ix 0 (x 15))])) .ret)))))
def cf69:CF:=⟨1,16,[(.var 2),(.var 3)],bd69,.plain⟩
def tr69:List Nat:=[0,1,2,3,4,5,6,8,12,15,17,18,21,22,28,34]
def bd70:Stm:=
 q (q (h 3 .box (c1 (x 0))) (s [(6,i 0),(5,.cst (.slice none 0 0)),(4,.cst (.slice none 0 0))])) (q (q (.hv [(7,n1 (.ld 3 true) (x 3))] [] [] (some 8)
 (.bSl [.slice none 0 0] 2 [0,1]) (c2 (x 1) (x 2))) (q (cl 9 116 (c2 (x 7) (x 8))) (.cond (n1 (.un .not) (x 9)) (q (s [(6,i 1),(5,.cst (.slice none 0 0)),
 (4,.cst (.slice none 0 0))]) .ret) .skip))) (q (.cond (b .eql (n1 .len (x 2)) (i 0)) (q (s [(6,i 12),(5,.cst (.slice none 0 0)),(4,.cst (.slice none 0
 0))]) .ret) .skip) (q (q (cl 10 117 (c1 (n1 (.ld 3 true) (x 3)))) (q (cl 11 118 (c3 (x 10) (x 1) (x 2))) (s [(5,ix 1 (x 11)),(4,ix 0 (x 11))]))) (q (s [(6,
 i 0),(5,x 5),(4,x 4)]) .ret))))
def cf70:CF:=⟨3,12,[(.var 4),(.var 5),(.var 6)],bd70,.plain⟩
def tr70:List Nat:=[0,1,2,3,6,7,8,9,12,13,20,23]
def bd71:Stm:=
 q (s [(1,.cst (.slice none 0 0))]) (q (s [(2,n1 .len (x 0))]) (q (.block 0 (.loop (q (.cond (p (b .gtr (x 2) (i 0)) (b .eql (ld (n2 (.iAddr 1) (x 0) (b .sub
 (x 2) (i 1)))) (i 0)) (.cst (.bool false))) .skip (.exit 0)) (.block 1 (s [(2,b .sub (x 2) (i 1))]))))) (q (q (h 3 (.app 1 [.int .i64 0]) (c2 (.cst (.slice
 none 0 0)) (n2 (.sl 1 false true false) (x 0) (x 2)))) (s [(1,x 3)])) .ret)))
def cf71:CF:=⟨1,4,[(.var 1)],bd71,.plain⟩
def tr71:List Nat:=[0,2,3,21]
def bd72:Stm:=
 q (q (h 3 .box (c1 (x 0))) (s [(5,i 0),(4,i 0)])) (q (q (.hv [(6,n1 (.ld 3 true) (x 3))] [] [] (some 7) (.bSl [.int .i64 0] 2 [0,1]) (c2 (x 1) (x 2))) (q
 (cl 8 119 (c2 (x 6) (x 7))) (.cond (n1 (.un .not) (x 8)) (q (s [(5,i 1),(4,i 0)]) .ret) .skip))) (q (.cond (b .neq (ld (fa 2 (x 3))) (i 0)) (q (s [(5,i
 0),(4,b .xor (x 1) (x 2))]) .ret) .skip) (q (s [(5,i 0),(4,b .rem (b .add (b .sub (x 1) (x 2)) (ld (fa 1 (x 3)))) (ld (fa 1 (x 3))))]) .ret)))
def cf72:CF:=⟨3,9,[(.var 4),(.var 5)],bd72,.plain⟩
def tr72:List Nat:=[0,1,2,3,6,7,8,11,12]
def bd73:Stm:=
 q (s [(2,.cst (.slice none 0 0))]) (q (.cond (b .lss (x 1) (i 0)) (.hv [] [] [] none .pan (c1 (n1 (.mkI 9) (.cst (.string ⟨ #[99,97,110,110,111,116,32,
 98,101,32,110,101,103,97,116,105,118,101] ⟩))))) .skip) (q (q (cl 7 120 (c2 (n1 (.cvt .u64) (n1 .len (x 0))) (n1 (.cvt .u64) (x 1)))) (s [(4,ix 1
 (x 7)),(3,ix 0 (x 7))])) (q (.cond (p (b .gtr (x 3) (.cst (.int .u64 0))) (.cst (.bool true)) (b .gtr (x 4) (.cst (.int .u64 9223372036854775807)))) (.hv []
 [] [] none .pan (c1 (n1 (.mkI 9) (.cst (.string lit1))))) .skip) (q (q (h 8 (.mkSl [.bool false]) (c2 (n1 (.cvt .i64) (x 4)) (n1 (.cvt .i64) (x 4)))) (s [(5,
 x 8)])) (q (q (h 9 (.cpy 1) (c2 (x 5) (x 0))) (s [(6,x 9)])) (q (.block 0 (.loop (q (.cond (b .lss (x 6) (n1 .len (x 5))) .skip (.exit 0)) (.block 1 (q (.hv
 [(10,x 6)] [] [] (some 11) (.cpy 1) (c2 (n2 (.sl 1 true false false) (x 5) (x 6)) (n2 (.sl 1 false true false) (x 5) (x 6)))) (s [(6,b .add (x 10) (x
 11))])))))) (q (s [(2,x 5)]) .ret)))))))
def cf73:CF:=⟨2,12,[(.var 2)],bd73,.plain⟩
def tr73:List Nat:=[0,1,4,5,6,7,8,18,30,33,38,45]
def bd85:Stm:=
 q (s [(2,i 0),(1,.cst (.slice none 0 0))]) (q (.cond (b .eql (n1 .len (x 0)) (i 0)) (q (s [(2,i 5),(1,.cst (.slice none 0 0))]) .ret) .skip) (q (.cond (b
 .eql (b .rem (n1 .len (x 0)) (i 2)) (i 0)) (q (s [(2,i 7),(1,.cst (.slice none 0 0))]) .ret) .skip) (q (q (cl 8 130 (c1 (x 0))) (.cond (n1 (.un .not) (x
 8)) (q (s [(2,i 3),(1,.cst (.slice none 0 0))]) .ret) .skip)) (q (s [(3,i 0)]) (q (q (s [(11,i 0),(10,n1 .len (x 0)),(9,x 0)]) (.block 0 (.loop (q
 (.cond (b .lss (x 11) (x 10)) .skip (.exit 0)) (q (.block 1 (q (s [(4,ld (n2 (.iAddr 1) (x 9) (x 11)))]) (s [(3,b .add (x 3) (x 4))]))) (s [(11,b .add (x
 11) (i 1))])))))) (q (.cond (b .gtr (x 3) (i 65536)) (q (s [(2,i 4),(1,.cst (.slice none 0 0))]) .ret) .skip) (q (q (h 12 (.mkSl [.bool false]) (c2 (i 0)
 (x 3))) (s [(5,x 12)])) (q (q (s [(15,i 0),(14,n1 .len (x 0)),(13,x 0)]) (.block 2 (.loop (q (.cond (b .lss (x 15) (x 14)) .skip (.exit 2)) (q (.block 3
 (q (s [(7,ld (n2 (.iAddr 1) (x 13) (x 15))),(6,x 15)]) (q (s [(17,i 0),(16,x 7)]) (.block 4 (.loop (q (.cond (b .lss (x 17) (x 16)) .skip (.exit 4)) (q
 (.block 5 (q (.hv [(18,x 5)] [] [] (some 19) (.bSl [.bool false] 1 [0]) (c1 (b .eql (b .rem (x 6) (i 2)) (i 0)))) (q (h 20 (.app 1 [.bool false]) (c2 (x 18)
 (x 19))) (s [(5,x 20)])))) (s [(17,b .add (x 17) (i 1))])))))))) (s [(15,b .add (x 15) (i 1))])))))) (q (s [(2,i 0),(1,x 5)]) .ret)))))))))
def cf85:CF:=⟨1,21,[(.var 1),(.var 2)],bd85,.plain⟩
def tr85:List Nat:=[0,2,3,4,6,7,8,9,18,20,21,22,33,34,35,36,41,42,44,48,49]
def bd86:Stm:=
 q (s [(2,.cst (.bool false))]) (q (.cond (b .neq (n1 .len (x 0)) (n1 .len (x 1))) (q (s [(2,.cst (.bool false))]) .ret) .skip) (q (q (s [(5,i 0),(4,n1 .len
 (x 0))]) (.block 0 (.loop (q (.cond (b .lss (x 5) (x 4)) .skip (.exit 0)) (q (.block 1 (q (s [(3,x 5)]) (.cond (n2 (.eqB true) (ld (n2 (.iAddr 1) (x 0) (x
 3))) (ld (n2 (.iAddr 1) (x 1) (x 3)))) (q (s [(2,.cst (.bool false))]) .ret) .skip))) (s [(5,b .add (x 5) (i 1))])))))) (q (s [(2,.cst (.bool true))])
 .ret)))
def cf86:CF:=⟨2,6,[(.var 2)],bd86,.plain⟩
def tr86:List Nat:=[0,1,4,5,12,13]
def bd87:Stm:=
 q (s [(4,.cst (.bool false)),(3,i 0),(2,i 0)]) (q (.cond (n1 (.un .not) (ld (n2 (.iAddr 1) (x 1) (i 0)))) (q (s [(4,.cst (.bool false)),(3,i 0),(2,i
 0)]) .ret) .skip) (q (s [(5,.cst (.slice none 0 0))]) (q (q (s [(11,i 0),(10,n1 .len (x 1)),(9,x 1)]) (.block 0 (.loop (q (.cond (b .lss (x 11) (x 10))
 .skip (.exit 0)) (q (.block 1 (q (s [(7,ld (n2 (.iAddr 1) (x 9) (x 11))),(6,x 11)]) (q (.cond (p (b .eql (x 6) (i 0)) (.cst (.bool true)) (n2 (.eqB true)
 (x 7) (ld (n2 (.iAddr 1) (x 1) (b .sub (x 6) (i 1)))))) (q (.hv [(12,x 5)] [] [] (some 13) (.bSl [.int .i64 0] 1 [0]) (c1 (i 0))) (q (h 14 (.app 1 [.int .i64
 0]) (c2 (x 12) (x 13))) (s [(5,x 14)]))) .skip) (.hv [] [] [] none (.st 1) (c2 (n2 (.iAddr 1) (x 5) (b .sub (n1 .len (x 5)) (i 1))) (b .add (ld (n2 (.iAddr
 1) (x 5) (b .sub (n1 .len (x 5)) (i 1)))) (i 1))))))) (s [(11,b .add (x 11) (i 1))])))))) (q (q (cl 15 27 (c2 (x 0) (x 5))) (s [(8,ix 2 (x 15)),(3,ix 1 (x
 15)),(2,ix 0 (x 15))])) (q (s [(4,b .eql (x 8) (i 0)),(3,x 3),(2,x 2)]) .ret)))))
def cf87:CF:=⟨2,16,[(.var 2),(.var 3),(.var 4)],bd87,.plain⟩
def tr87:List Nat:=[0,1,4,5,6,7,8,9,10,15,16,17,33,34,35,48]
def bd88:Stm:=
 .cond (b .geq (x 1) (i 0)) (.hv [] [] [] none (.st 1) (c2 (n2 (.iAddrA 30 1) (n1 .nilChk (x 0)) (x 1)) (b .add (ld (n2 (.iAddrA 30 1) (n1 .nilChk (x 0)) (x 1)))
 (i 1)))) .skip
def cf88:CF:=⟨2,2,[],bd88,.plain⟩
def tr88:List Nat:=[0,1]
def bd89:Stm:=
 q (s [(2,.cst (.bool false)),(1,i 0)]) (q (s [(3,i 0)]) (q (q (s [(7,i 0),(6,x 0)]) (.block 0 (.loop (q (.cond (b .lss (x 7) (i 30)) .skip (.exit 0)) (q
 (.block 1 (q (s [(5,ld (n2 (.iAddrA 30 1) (n1 .nilChk (x 6)) (x 7))),(4,x 7)]) (.cond (b .gtr (x 5) (ld (n2 (.iAddrA 30 1) (n1 .nilChk (x 0)) (x 3)))) (s
 [(3,x 4)]) .skip))) (s [(7,b .add (x 7) (i 1))])))))) (q (s [(2,b .gtr (ld (n2 (.iAddrA 30 1) (n1 .nilChk (x 0)) (x 3))) (i 0)),(1,x 3)]) .ret)))
def cf89:CF:=⟨1,8,[(.var 1),(.var 2)],bd89,.plain⟩
def tr89:List Nat:=[0,2,3,4,5,6,7,8]
def bd90:Stm:=
 q (s [(2,i 0)]) (q (q (s [(5,i 0),(4,n1 .len (x 0))]) (.block 0 (.loop (q (.cond (b .lss (x 5) (x 4)) .skip (.exit 0)) (q (.block 1 (q (s [(3,x 5)]) (q (h
 6 (.call false) (c2 (x 1) (ld (n2 (.iAddr 1) (x 0) (x 3))))) (.cond (x 6) (q (s [(2,x 3)]) .ret) .skip)))) (s [(5,b .add (x 5) (i 1))])))))) (q (s [(2,i
 (-1))]) .ret))
def cf90:CF:=⟨2,7,[(.var 2)],bd90,.plain⟩
def tr90:List Nat:=[0,1,4,5,7,8,16]
def bd92:Stm:=
 q (q (h 3 .box (c1 (x 0))) (s [(5,.cst (.bool false)),(4,i 0)])) (q (q (cl 9 87 (c2 (x 1) (.node (.sl 1 true true false) (c3 (ld (fa 3 (x 3))) (b .mul (i 17)
 (x 2)) (b .add (b .mul (i 17) (x 2)) (i 17)))))) (s [(8,ix 2 (x 9)),(7,ix 1 (x 9)),(6,ix 0 (x 9))])) (q (.cond (p (n1 (.un .not) (x 8)) (.cst (.bool
 true)) (b .neq (x 6) (b .mul (i 3) (b .rem (ld (fa 0 (x 3))) (i 3))))) (q (s [(5,.cst (.bool false)),(4,i 0)]) .ret) .skip) (q (s [(5,.cst (.bool true)),
 (4,x 7)]) .ret)))
def cf92:CF:=⟨3,10,[(.var 4),(.var 5)],bd92,.plain⟩
def tr92:List Nat:=[0,1,2,3,6,7,8,9,10,21]
def bd93:Stm:=
 q (q (h 1 .box (c1 (x 0))) (h 2 (.alloc [.int .i64 0,.int .i64 0,.slice none 0 0,.slice none 0 0]) .nil)) (q (q (cl 7 131 (c1 (n1 (.ld 3 true) (x 1))))
 (.sets [(3,ix 0 (x 7))] [ix 1 (x 7)])) (q (q (.hv [(11,ld (fa 1 (x 1))),(9,ld (fa 1 (x 1))),(8,ld (fa 0 (x 1)))] [] [] (some 10) (.mkSl [.int .i64 0])
 (c2 (b .sub (ld (fa 1 (x 1))) (i 1)) (b .sub (ld (fa 1 (x 1))) (i 1)))) (q (h 12 (.mkSl [.int .i64 0]) (c2 (x 11) (x 11))) (q (.hv [(13,.node (.build [.int
 .i64 0,.int .i64 0,.slice none 0 0,.slice none 0 0] [(0,1),(1,1),(2,1),(3,1)]) (c (x 8) (c3 (x 9) (x 10) (x 12))))] [] [] (some 4) (.alloc [.int
 .i64 0,.int .i64 0,.slice none 0 0,.slice none 0 0]) .nil) (.hv [] [] [] none (.st 4) (c2 (x 4) (x 13)))))) (q (s [(5,i 1)]) (q (q (s [(15,i 0),(14,n1
 .len (ld (fa 2 (x 4))))]) (.block 0 (.loop (q (.cond (b .lss (x 15) (x 14)) .skip (.exit 0)) (q (.block 1 (q (s [(6,x 15)]) (q (q (.hv [(20,n2 (.iAddr 1)
 (ld (fa 2 (x 4))) (x 6)),(19,x 6),(18,x 5),(17,ld (fa 3 (x 4))),(16,fa 3 (x 4))] [] [] none (.st 1) (c2 (n2 (.iAddr 1) (ld (fa 2 (x 4))) (x 6)) (x
 5))) (q (.hv [] [] [] none (.st 1) (c2 (n2 (.iAddr 1) (x 17) (x 18)) (x 19))) (.dist (x 20) (x 16)))) (q (cl 21 132 (c3 (n1 (.ld 3 true) (x 1)) (x 5) (x 3)))
 (.sets [(5,ix 0 (x 21))] [ix 1 (x 21)]))))) (s [(15,b .add (x 15) (i 1))])))))) (q (.hv [] [] [] none (.st 4) (c2 (x 2) (n1 (.ld 4 true) (x 4)))) .ret)))))
def cf93:CF:=⟨1,22,[(.node (.ld 4 true) (.cons (.var 2) .nil))],bd93,.plain⟩
def tr93:List Nat:=[0,1,2,3,5,6,7,10,14,16,20,22,23,24,27,28,34,35,36,38,39,45]
def bd94:Stm:=
 q (s [(1,.cst (.bool false))]) (q (q (h 4 (.bSl [.nilFunc] 6 [0,1,2,3,4,5]) (c (n1 (.mkF 133 1) (x 0)) (c (n1 (.mkF 134 1) (x 0)) (c (n1 (.mkF 135 1) (x
 0)) (c3 (n1 (.mkF 136 1) (x 0)) (n1 (.mkF 137 1) (x 0)) (n1 (.mkF 138 1) (x 0))))))) (s [(2,x 4)])) (q (q (s [(7,i 0),(6,n1 .len (x 2)),(5,x 2)])
 (.block 0 (.loop (q (.cond (b .lss (x 7) (x 6)) .skip (.exit 0)) (q (.block 1 (q (s [(3,ld (n2 (.iAddr 1) (x 5) (x 7)))]) (q (h 8 (.call false) (c1 (x 3)))
 (.cond (n1 (.un .not) (x 8)) (q (s [(1,.cst (.bool false))]) .ret) .skip)))) (s [(7,b .add (x 7) (i 1))])))))) (q (s [(1,.cst (.bool true))]) .ret)))
def cf94:CF:=⟨1,9,[(.var 1)],bd94,.plain⟩
def tr94:List Nat:=[0,2,3,5,18,19,20,21,26]
def bd95:Stm:=
 q (q (.hv [(6,ix 1 (n1 (.tas 169 [.int .i64 0]) (x 4))),(5,ix 0 (n1 (.tas 169 [.int .i64 0]) (x 4))),(4,x 4)] [] [] (some 2) (.alloc [.int .i64 0]) .nil)
 (q (.hv [] [] [] none (.st 1) (c2 (x 2) (x 5))) (s [(3,x 6)]))) (.cond (x 3) (q (.hv [(8,ld (fa 0 (x 2))),(7,fa 0 (x 2))] [] [] none (.st 1) (c2 (x 0)
 (.cst (.slice none 0 0)))) (q (.hv [] [] [] none (.st 1) (c2 (x 1) (x 8))) (.dist (x 0) (x 7)))) .skip)
def cf95:CF:=⟨2,9,[],bd95,.rcv 4⟩
def tr95:List Nat:=[0,1,2,3,5,7,8,10,11]
def bd96:Stm:=
 q (s [(1,ld (n2 (.iAddr 1) (ld (fa 0 (n1 .nilChk (x 0)))) (ld (fa 1 (n1 .nilChk (x 0))))))]) (q (.hv [] [] [] none (.st 1) (c2 (fa 1 (n1 .nilChk (x 0))) (b
 .add (ld (fa 1 (n1 .nilChk (x 0)))) (i 1)))) (.block 0 (.cond (b .lss (x 1) (i 900)) (q (.hv [] [] [] none (.call false) (c3 (.cst (.func (.func 139) #[]
 #[])) (x 0) (b .quo (x 1) (i 30)))) (.hv [] [] [] none (.call false) (c3 (.cst (.func (.func 139) #[] #[])) (x 0) (b .rem (x 1) (i 30))))) (.cond (b .eql (x
 1) (i 900)) (.hv [] [] [] none (.st 2) (c2 (fa 2 (n1 .nilChk (x 0))) (n2 (.build [.int .i64 0,.int .i64 0] [(0,1),(1,1)]) (i 0) (i 0)))) (.cond (b .eql (x
 1) (i 913)) (.hv [] [] [] none (.call false) (c2 (.cst (.func (.func 140) #[] #[])) (x 0))) (.cond (p (p (b .eql (x 1) (i 901)) (.cst (.bool true)) (b .eql (x
 1) (i 924))) (.cst (.bool true)) (b .eql (x 1) (i 902))) (.hv [] [] [] none (.call false) (c3 (.cst (.func (.func 141) #[] #[])) (x 0) (x 1))) (.hv [] [] []
 none .pan (c1 (n1 (.mkI 169) (n1 (.build [.int .i64 0] [(0,1)]) (i 22)))))))))))
def cf96:CF:=⟨1,2,[],bd96,.plain⟩
def tr96:List Nat:=[0,2]
def bd97:Stm:=
 q (s [(2,.cst (.bool false))]) (q (q (cl 3 142 (c1 (x 0))) (q (.hv [(4,x 3)] [] [(x 3,true)] (some 5) (.call false) (c2 (.cst (.func (.func 142) #[] #[])) (x
 1))) (s [(2,p (p (x 4) (n1 (.un .not) (x 5)) (.cst (.bool false))) (.cst (.bool true)) (b .lss (x 0) (x 1)))]))) .ret)
def cf97:CF:=⟨2,6,[(.var 2)],bd97,.plain⟩
def tr97:List Nat:=[0,1,4,6,7,9]
def bd98:Stm:=
 q (s [(1,.cst (.bool false))]) (q (s [(1,b .neq (x 0) (x 0))]) .ret)
def cf98:CF:=⟨1,2,[(.var 1)],bd98,.plain⟩
def tr98:List Nat:=[0,2]
def bd106:Stm:=
 q (s [(2,n1 .len (ld (fa 0 (n1 .nilChk (x 0)))))]) (q (q (.hv [(12,x 1),(11,ld (fa 6 (n1 .nilChk (x 0)))),(10,x 1),(9,ld (fa 5 (n1 .nilChk (x 0)))),(8,
 x 1),(7,ld (fa 3 (n1 .nilChk (x 0))))] [] [] none (.st 1) (c2 (n2 (.iAddr 1) (ld (fa 2 (n1 .nilChk (x 0)))) (x 1)) (i 1073741824))) (q (.hv [] [] [] none
 (.st 1) (c2 (n2 (.iAddr 1) (x 7) (x 8)) (i 1073741824))) (q (.hv [] [] [] none (.st 1) (c2 (n2 (.iAddr 1) (x 9) (x 10)) (i 1073741824))) (.hv [] [] [] none
 (.st 1) (c2 (n2 (.iAddr 1) (x 11) (x 12)) (i 1073741824)))))) (q (q (s [(13,i 0)]) (.block 0 (.loop (q (.cond (b .lss (x 13) (i 12)) .skip (.exit 0)) (q
 (.block 1 (q (s [(3,x 13)]) (.hv [] [] [] none (.st 1) (c2 (n2 (.iAddrA 12 1) (n2 (.iAddr 12) (ld (fa 1 (n1 .nilChk (x 0)))) (x 1)) (x 3)) (i 1073741824)))))
 (s [(13,b .add (x 13) (i 1))])))))) (q (.cond (b .eql (x 1) (x 2)) (q (.hv [] [] [] none (.st 1) (c2 (n2 (.iAddr 1) (ld (fa 6 (n1 .nilChk (x 0)))) (x 1)) (i
 0))) (.hv [] [] [] none (.st 12) (c2 (n2 (.iAddr 12) (ld (fa 1 (n1 .nilChk (x 0)))) (x 1)) (.node (.build [.int .i64 0,.int .i64 0,.int .i64 0,.int .i64 0,
 .int .i64 0,.int .i64 0,.int .i64 0,.int .i64 0,.int .i64 0,.int .i64 0,.int .i64 0,.int .i64 0] []) .nil)))) .skip) (q (.cond (b .leq (b .add (x 1) (i
 6)) (x 2)) (q (.hv [] [] [] none (.st 1) (c2 (n2 (.iAddr 1) (ld (fa 2 (n1 .nilChk (x 0)))) (x 1)) (b .add (i 5) (ld (n2 (.iAddr 1) (ld (fa 2 (n1 .nilChk (x
 0)))) (b .add (x 1) (i 6))))))) (.hv [] [] [] none (.st 1) (c2 (n2 (.iAddr 1) (ld (fa 3 (n1 .nilChk (x 0)))) (x 1)) (b .add (i 5) (ld (n2 (.iAddr 1) (ld (fa 3
 (n1 .nilChk (x 0)))) (b .add (x 1) (i 6)))))))) .skip) (q (.cond (b .lss (x 1) (x 2)) (.hv [] [] [] none (.st 1) (c2 (n2 (.iAddr 1) (ld (fa 3 (n1 .nilChk (x
 0)))) (x 1)) (n2 (.minmax false) (ld (n2 (.iAddr 1) (ld (fa 3 (n1 .nilChk (x 0)))) (x 1))) (b .add (i 1) (ld (n2 (.iAddrA 6 1) (n2 (.iAddr 6) (ld (fa 4 (n1
 .nilChk (x 0)))) (b .add (x 1) (i 1))) (i 1))))))) .skip) (q (q (s [(4,i 1)]) (.block 2 (.loop (q (.cond (b .leq (x 4) (i 5)) .skip (.exit 2)) (q (.block 3
 (q (.hv [] [] [] none (.st 1) (c2 (n2 (.iAddrA 6 1) (n2 (.iAddr 6) (ld (fa 4 (n1 .nilChk (x 0)))) (x 1)) (x 4)) (i 1073741824))) (.cond (p (b .lss (x 4) (i
 5)) (b .lss (x 1) (x 2)) (.cst (.bool false))) (.hv [] [] [] none (.st 1) (c2 (n2 (.iAddrA 6 1) (n2 (.iAddr 6) (ld (fa 4 (n1 .nilChk (x 0)))) (x 1)) (x 4)) (b
 .add (i 1) (ld (n2 (.iAddrA 6 1) (n2 (.iAddr 6) (ld (fa 4 (n1 .nilChk (x 0)))) (b .add (x 1) (i 1))) (b .add (x 4) (i 1))))))) .skip))) (s [(4,b .add (x 4)
 (i 1))])))))) (q (s [(5,i 1)]) (.block 4 (.loop (q (q (.hv [(14,x 5)] [] [] (some 15) (.call false) (c3 (.cst (.func (.func 153) #[] #[])) (x 0) (x 1)))
 (.cond (b .leq (x 14) (x 15)) .skip (.exit 4))) (q (.block 5 (q (s [(6,ld (n2 (.iAddr 1) (ld (fa 6 (n1 .nilChk (x 0)))) (b .add (x 1) (x 5))))]) (q (.cond (b
 .eql (x 5) (i 44)) (s [(6,ld (n2 (.iAddr 1) (ld (fa 5 (n1 .nilChk (x 0)))) (b .add (x 1) (x 5))))]) .skip) (.hv [] [] [] none (.st 1) (c2 (n2 (.iAddr 1) (ld
 (fa 5 (n1 .nilChk (x 0)))) (x 1)) (n2 (.minmax false) (ld (n2 (.iAddr 1) (ld (fa 5 (n1 .nilChk (x 0)))) (x 1))) (b .add (b .add (b .quo (x 5) (i 3)) (i 1)) (x
 6)))))))) (s [(5,b .add (x 5) (i 1))]))))))))))))
def cf106:CF:=⟨2,16,[],bd106,.plain⟩
def tr106:List Nat:=[0,1,4,5,6,7,8,22,23,27,28,32,33,38,166,169]
def bd107:Stm:=
 q (h 2 (.alloc [.slice none 0 0,.slice none 0 0,.slice none 0 0,.slice none 0 0,.slice none 0 0,.slice none 0 0,.slice none 0 0,.slice none 0 0,.slice
 none 0 0,.slice none 0 0,.slice none 0 0,.slice none 0 0]) .nil) (q (q (s [(10,i 0)]) (.block 0 (.loop (q (.cond (b .lss (x 10) (i 12)) .skip (.exit 0))
 (q (.block 1 (q (s [(3,x 10)]) (q (.hv [(11,x 3)] [] [] (some 12) (.call false) (c (.cst (.func (.func 154) #[] #[])) (c3 (x 0) (x 1) (x 3)))) (.hv [] [] []
 none (.st 1) (c2 (n2 (.iAddrA 12 1) (x 2) (x 11)) (x 12)))))) (s [(10,b .add (x 10) (i 1))])))))) (q (q (h 4 (.alloc [.bool false]) .nil) (.hv [] [] [] none
 (.st 1) (c2 (x 4) (.cst (.bool true))))) (q (s [(5,n1 (.mkF 155 0) (x 4))]) (.block 2 (.loop (q (.cond (ld (x 4)) .skip (.exit 2)) (.block 3 (q (.hv [] [] []
 none (.st 1) (c2 (x 4) (.cst (.bool false)))) (q (s [(6,b .add (i 1) (.node (.minmax false) (c (ld (n2 (.iAddrA 12 1) (n2 (.iAddr 12) (ld (fa 1 (n1 .nilChk
 (x 0)))) (x 1)) (i 0))) (c3 (ld (n2 (.iAddr 1) (ld (fa 2 (n1 .nilChk (x 0)))) (x 1))) (ld (n2 (.iAddr 1) (ld (fa 3 (n1 .nilChk (x 0)))) (x 1))) (ld (n2
 (.iAddr 1) (ld (fa 5 (n1 .nilChk (x 0)))) (x 1)))))))]) (q (.hv [] [] [] none (.call false) (c3 (x 5) (n2 (.iAddr 1) (ld (fa 6 (n1 .nilChk (x 0)))) (x 1)) (x
 6))) (q (.hv [] [] [] none (.call false) (c3 (x 5) (n2 (.iAddr 1) (ld (fa 2 (n1 .nilChk (x 0)))) (x 1)) (ld (n2 (.iAddr 1) (ld (fa 6 (n1 .nilChk (x 0)))) (x
 1))))) (q (.hv [] [] [] none (.call false) (c3 (x 5) (n2 (.iAddr 1) (ld (fa 5 (n1 .nilChk (x 0)))) (x 1)) (ld (n2 (.iAddr 1) (ld (fa 6 (n1 .nilChk (x 0)))) (x
 1))))) (q (q (s [(7,i 1)]) (.block 4 (.loop (q (.cond (b .leq (x 7) (i 5)) .skip (.exit 4)) (q (.block 5 (.hv [] [] [] none (.call false) (c3 (x 5) (n2
 (.iAddrA 6 1) (n2 (.iAddr 6) (ld (fa 4 (n1 .nilChk (x 0)))) (x 1)) (x 7)) (ld (n2 (.iAddr 1) (ld (fa 6 (n1 .nilChk (x 0)))) (x 1)))))) (s [(7,b .add (x 7) (i
 1))])))))) (q (s [(13,i 0)]) (.block 6 (.loop (q (.cond (b .lss (x 13) (i 12)) .skip (.exit 6)) (q (.block 7 (q (s [(8,x 13)]) (q (.hv [] [] [] none (.call
 false) (c3 (x 5) (n2 (.iAddrA 12 1) (n2 (.iAddr 12) (ld (fa 1 (n1 .nilChk (x 0)))) (x 1)) (x 8)) (x 6))) (q (.cond (b .lss (x 1) (n1 .len (ld (fa 0 (n1
 .nilChk (x 0)))))) (.hv [] [] [] none (.call false) (c3 (x 5) (n2 (.iAddrA 12 1) (n2 (.iAddr 12) (ld (fa 1 (n1 .nilChk (x 0)))) (x 1)) (x 8)) (b .add (i 2)
 (ld (n2 (.iAddrA 12 1) (n2 (.iAddr 12) (ld (fa 1 (n1 .nilChk (x 0)))) (b .add (x 1) (i 1))) (b .mul (b .quo (x 8) (i 3)) (i 3))))))) .skip) (q (s [(16,i 0),
 (15,n1 .len (ld (n2 (.iAddrA 12 1) (x 2) (x 8)))),(14,ld (n2 (.iAddrA 12 1) (x 2) (x 8)))]) (.block 8 (.loop (q (.cond (b .lss (x 16) (x 15)) .skip (.exit
 8)) (q (.block 9 (q (q (.hv [(17,n1 (.ld 3 true) (n2 (.iAddr 3) (x 14) (x 16)))] [] [] (some 9) (.alloc [.int .i64 0,.int .i64 0,.int .i64 0]) .nil) (.hv
 [] [] [] none (.st 3) (c2 (x 9) (x 17)))) (.hv [] [] [] none (.call false) (c3 (x 5) (n2 (.iAddrA 12 1) (n2 (.iAddr 12) (ld (fa 1 (n1 .nilChk (x 0)))) (x 1))
 (x 8)) (b .add (i 1) (ld (n2 (.iAddrA 12 1) (n2 (.iAddr 12) (ld (fa 1 (n1 .nilChk (x 0)))) (b .add (x 1) (ld (fa 1 (x 9))))) (ld (fa 2 (x 9)))))))))) (s [(16,
 b .add (x 16) (i 1))])))))))))) (s [(13,b .add (x 13) (i 1))])))))))))))))))))))
def cf107:CF:=⟨2,18,[],bd107,.plain⟩
def tr107:List Nat:=[0,1,4,5,6,7,8,9,10,12,13,16,20,116,162,163,164,167]
def bd108:Stm:=
 q (q (h 3 .box (c1 (x 1))) (s [(4,.cst (.slice none 0 0))])) (q (s [(5,.cst (.slice none 0 0))]) (q (q (s [(7,ld (fa 0 (x 3)))]) (.block 0 (.cond (b .eql (x
 7) (i 0)) (q (q (q (cl 8 154 (c3 (x 0) (ld (fa 1 (x 3))) (ld (fa 2 (x 3))))) (s [(10,i 0),(9,n1 .len (x 8))])) (.block 1 (.loop (q (.cond (b .lss (x 10) (x
 9)) .skip (.exit 1)) (q (.block 2 (q (q (.hv [(11,n1 (.ld 3 true) (n2 (.iAddr 3) (x 8) (x 10)))] [] [] (some 6) (.alloc [.int .i64 0,.int .i64 0,.int .i64
 0]) .nil) (.hv [] [] [] none (.st 3) (c2 (x 6) (x 11)))) (q (.hv [(12,x 5)] [] [] (some 13) (.bSl [.int .i64 0,.int .i64 0,.int .i64 0,.int .i64 0,.int
 .i64 0] 1 [0]) (c1 (n2 (.build [.int .i64 0,.int .i64 0,.int .i64 0,.int .i64 0,.int .i64 0] [(0,1),(1,4)]) (ld (fa 0 (x 6))) (.node (.build [.int .i64
 0,.int .i64 0,.int .i64 0,.int .i64 0] [(0,1),(1,1),(2,1)]) (c3 (i 0) (b .add (ld (fa 1 (x 3))) (ld (fa 1 (x 6)))) (ld (fa 2 (x 6)))))))) (q (h 14
 (.app 5 [.int .i64 0,.int .i64 0,.int .i64 0,.int .i64 0,.int .i64 0]) (c2 (x 12) (x 13))) (s [(5,x 14)]))))) (s [(10,b .add (x 10) (i 1))])))))) (q
 (.cond (b .lss (ld (fa 1 (x 3))) (n1 .len (ld (fa 0 (n1 .nilChk (x 0)))))) (q (.hv [(15,x 5)] [] [] (some 16) (.bSl [.int .i64 0,.int .i64 0,.int .i64 0,
 .int .i64 0,.int .i64 0] 1 [0]) (c1 (n2 (.build [.int .i64 0,.int .i64 0,.int .i64 0,.int .i64 0,.int .i64 0] [(0,1),(1,4)]) (i 913) (.node (.build
 [.int .i64 0,.int .i64 0,.int .i64 0,.int .i64 0] [(0,1),(1,1),(2,1)]) (c3 (i 1) (ld (fa 1 (x 3))) (b .mul (b .quo (ld (fa 2 (x 3))) (i 3)) (i
 3))))))) (q (h 17 (.app 5 [.int .i64 0,.int .i64 0,.int .i64 0,.int .i64 0,.int .i64 0]) (c2 (x 15) (x 16))) (s [(5,x 17)]))) .skip) (q (q (.hv [(18,x
 5)] [] [] (some 19) (.call false) (c2 (.cst (.func (.func 156) #[] #[])) (ld (fa 1 (x 3))))) (q (h 20 (.app 5 [.int .i64 0,.int .i64 0,.int .i64 0,.int
 .i64 0,.int .i64 0]) (c2 (x 18) (x 19))) (s [(4,x 20)]))) .ret))) (.cond (b .eql (x 7) (i 1)) (q (q (.hv [(21,x 5)] [] [] (some 22) (.bSl [.int .i64 0,
 .int .i64 0,.int .i64 0,.int .i64 0,.int .i64 0] 1 [0]) (c1 (n2 (.build [.int .i64 0,.int .i64 0,.int .i64 0,.int .i64 0,.int .i64 0] [(0,1),(1,4)])
 (n1 (.cvt .i64) (ld (n2 (.iAddr 1) (ld (fa 0 (n1 .nilChk (x 0)))) (ld (fa 1 (x 3)))))) (.node (.build [.int .i64 0,.int .i64 0,.int .i64 0,.int .i64 0]
 [(0,1),(1,1),(2,1)]) (c3 (i 0) (b .add (ld (fa 1 (x 3))) (i 1)) (ld (fa 2 (x 3)))))))) (q (h 23 (.app 5 [.int .i64 0,.int .i64 0,.int .i64 0,.int .i64
 0,.int .i64 0]) (c2 (x 21) (x 22))) (s [(4,x 23)]))) .ret) (q (q (s [(24,b .eql (x 7) (i 2))]) (.cond (x 24) .skip (s [(24,b .eql (x 7) (i 3))]))) (.cond
 (x 24) (q (q (cl 25 157 (c2 (x 0) (n1 (.ld 4 true) (x 3)))) (s [(4,x 25)])) .ret) (.cond (b .eql (x 7) (i 4)) (q (.cond (p (b .lss (ld (fa 2 (x 3))) (i 5))
 (b .lss (ld (fa 1 (x 3))) (n1 .len (ld (fa 0 (n1 .nilChk (x 0)))))) (.cst (.bool false))) (q (.hv [(26,x 5)] [] [] (some 27) (.bSl [.int .i64 0,.int .i64 0,
 .int .i64 0,.int .i64 0,.int .i64 0] 1 [0]) (c1 (n2 (.build [.int .i64 0,.int .i64 0,.int .i64 0,.int .i64 0,.int .i64 0] [(0,1),(1,4)]) (n1 (.cvt
 .i64) (ld (n2 (.iAddr 1) (ld (fa 0 (n1 .nilChk (x 0)))) (ld (fa 1 (x 3)))))) (.node (.build [.int .i64 0,.int .i64 0,.int .i64 0,.int .i64 0] [(0,1),(1,
 1),(2,1)]) (c3 (i 4) (b .add (ld (fa 1 (x 3))) (i 1)) (b .add (ld (fa 2 (x 3))) (i 1))))))) (q (h 28 (.app 5 [.int .i64 0,.int .i64 0,.int .i64 0,.int
 .i64 0,.int .i64 0]) (c2 (x 26) (x 27))) (s [(5,x 28)]))) .skip) (q (q (.hv [(29,x 5)] [] [] (some 30) (.call false) (c2 (.cst (.func (.func 156) #[] #[]))
 (ld (fa 1 (x 3))))) (q (h 31 (.app 5 [.int .i64 0,.int .i64 0,.int .i64 0,.int .i64 0,.int .i64 0]) (c2 (x 29) (x 30))) (s [(4,x 31)]))) .ret)) (.cond (b
 .eql (x 7) (i 5)) (q (q (cl 32 158 (c3 (x 0) (n1 (.ld 4 true) (x 3)) (x 2))) (s [(4,x 32)])) .ret) .skip)))))))) (q (q (cl 33 156 (c1 (ld (fa 1 (x 3))))) (s
 [(4,x 33)])) .ret)))
def cf108:CF:=⟨3,34,[(.var 4)],bd108,.plain⟩
def tr108:List Nat:=[0,1,2,4,6,7,9,11,19,20,21,24,25,37,38,48,57,58,59,62,63,66,83,84,85,90,106,124,125,126,129,130,136,139]
def bd109:Stm:=
 q (s [(1,.cst (.bool false))]) (q (q (s [(2,i 2)]) (.block 0 (.loop (q (.cond (b .leq (b .mul (x 2) (x 2)) (x 0)) .skip (.exit 0)) (q (.block 1 (.cond (b .eql
 (b .rem (x 0) (x 2)) (i 0)) (q (s [(1,.cst (.bool false))]) .ret) .skip)) (s [(2,b .add (x 2) (i 1))])))))) (q (s [(1,.cst (.bool true))]) .ret))
def cf109:CF:=⟨1,3,[(.var 1)],bd109,.plain⟩
def tr109:List Nat:=[0,2,3]
def bd110:Stm:=
 q (q (h 2 (.alloc [.int .i64 0,.int .i64 0,.int .i64 0]) .nil) (s [(3,i 0)])) (q (.cond (p (b .lss (x 0) (i 1)) (.cst (.bool true)) (b .gtr (x 0) (i 12))) (q
 (q (.hv [] [] [] none (.st 3) (c2 (x 2) (.node (.build [.int .i64 0,.int .i64 0,.int .i64 0] []) .nil))) (s [(3,i 3)])) .ret) .skip) (q (q (.hv [(5,.node
 (.build [.int .i64 0,.int .i64 0,.int .i64 0] [(0,1),(1,1),(2,1)]) (c3 (i 2) (b .shl (i 1) (x 0)) (x 1)))] [] [] (some 4) (.alloc [.int .i64 0,.int
 .i64 0,.int .i64 0]) .nil) (.hv [] [] [] none (.st 3) (c2 (x 4) (x 5)))) (q (q (cl 6 111 (c1 (n1 (.ld 3 true) (x 4)))) (.cond (n1 (.un .not) (x 6)) (q (q
 (.hv [] [] [] none (.st 3) (c2 (x 2) (.node (.build [.int .i64 0,.int .i64 0,.int .i64 0] []) .nil))) (s [(3,i 38)])) .ret) .skip)) (q (q (.hv [] [] []
 none (.st 3) (c2 (x 2) (n1 (.ld 3 true) (x 4)))) (s [(3,i 0)])) .ret))))
def cf110:CF:=⟨2,7,[(.node (.ld 3 true) (.cons (.var 2) .nil)),(.var 3)],bd110,.plain⟩
def tr110:List Nat:=[0,1,4,5,6,17,19]
def bd111:Stm:=
 q (q (h 1 .box (c1 (x 0))) (s [(2,.cst (.bool false))])) (q (.cond (b .eql (ld (fa 2 (x 1))) (i 0)) (q (q (.hv [(3,p (p (b .gtr (ld (fa 1 (x 1))) (i 2)) (b
 .leq (ld (fa 1 (x 1))) (i 4096)) (.cst (.bool false))) (n2 (.eqA false [1,1,1]) (n1 (.ld 3 true) (x 1)) (n2 (.build [.int .i64 0,.int .i64 0,.int .i64 0]
 [(0,1),(1,1)]) (ld (fa 1 (x 1))) (ld (fa 1 (x 1))))) (.cst (.bool false)))] [] [(p (p (b .gtr (ld (fa 1 (x 1))) (i 2)) (b .leq (ld (fa 1 (x 1))) (i 4096))
 (.cst (.bool false))) (n2 (.eqA false [1,1,1]) (n1 (.ld 3 true) (x 1)) (n2 (.build [.int .i64 0,.int .i64 0,.int .i64 0] [(0,1),(1,1)]) (ld (fa 1 (x
 1))) (ld (fa 1 (x 1))))) (.cst (.bool false)),true)] (some 4) (.call false) (c2 (.cst (.func (.func 109) #[] #[])) (ld (fa 1 (x 1))))) (s [(2,p (x 3) (x 4)
 (.cst (.bool false)))])) .ret) .skip) (q (q (.hv [(5,b .lss (ld (fa 2 (x 1))) (i 2))] [] [(b .lss (ld (fa 2 (x 1))) (i 2),false)] (some 6) (.call false) (c2
 (.cst (.func (.func 159) #[] #[])) (ld (fa 2 (x 1))))) (.cond (p (x 5) (.cst (.bool true)) (b .gtr (x 6) (i 12))) (q (s [(2,.cst (.bool false))]) .ret)
 .skip)) (q (q (.hv [(9,ld (fa 2 (x 1))),(7,n1 (.ld 3 true) (x 1))] [] [] (some 8) (.callK 2) (c (x 1) (c3 (fa 2 (x 1)) (.cst (.func (.func 159) #[] #[]))
 (ld (fa 2 (x 1)))))) (q (.hv [(10,n2 (.eqA false [1,1,1]) (x 7) (.node (.build [.int .i64 0,.int .i64 0,.int .i64 0] [(0,1),(1,1),(2,1)]) (c3 (i 2)
 (b .shl (i 1) (x 8)) (x 9))))] [] [(n2 (.eqA false [1,1,1]) (x 7) (.node (.build [.int .i64 0,.int .i64 0,.int .i64 0] [(0,1),(1,1),(2,1)]) (c3 (i 2)
 (b .shl (i 1) (x 8)) (x 9))),true)] (some 11) .callC (c2 (.cst (.func (.func 160) #[] #[])) (ld (fa 2 (x 1))))) (s [(2,p (x 10) (x 11) (.cst (.bool
 false)))]))) .ret)))
def cf111:CF:=⟨1,12,[(.var 2)],bd111,.plain⟩
def tr111:List Nat:=[0,1,2,23,26,31,34,37,40,43,46,49]
def bd112:Stm:=
 q (q (h 3 .box (c1 (x 0))) (s [(4,.cst (.bool false))])) (q (s [(4,p (p (p (b .geq (x 1) (i 1)) (b .leq (x 1) (b .sub (ld (fa 1 (x 3))) (i 2))) (.cst (.bool
 false))) (b .geq (x 2) (i 0)) (.cst (.bool false))) (b .leq (x 2) (b .sub (ld (fa 1 (x 3))) (i 2))) (.cst (.bool false)))]) .ret)
def cf112:CF:=⟨3,5,[(.var 4)],bd112,.plain⟩
def tr112:List Nat:=[0,1,2,3,6]
def bd113:Stm:=
 q (q (h 2 .box (c1 (x 0))) (s [(3,.cst (.bool false))])) (q (q (s [(7,i 0),(6,n1 .len (x 1)),(5,x 1)]) (.block 0 (.loop (q (.cond (b .lss (x 7) (x 6))
 .skip (.exit 0)) (q (.block 1 (q (s [(4,ld (n2 (.iAddr 1) (x 5) (x 7)))]) (.cond (p (b .lss (x 4) (i 0)) (.cst (.bool true)) (b .geq (x 4) (ld (fa 1 (x
 2))))) (q (s [(3,.cst (.bool false))]) .ret) .skip))) (s [(7,b .add (x 7) (i 1))])))))) (q (s [(3,.cst (.bool true))]) .ret))
def cf113:CF:=⟨2,8,[(.var 3)],bd113,.plain⟩
def tr113:List Nat:=[0,1,2,4,6,7,8,9]
def bd114:Stm:=
 q (q (h 2 .box (c1 (x 0))) (s [(3,i 0)])) (q (s [(3,ld (n2 (.iAddr 1) (ld (fa 2 (x 2))) (b .rem (x 1) (b .sub (ld (fa 1 (x 2))) (i 1)))))]) .ret)
def cf114:CF:=⟨2,4,[(.var 3)],bd114,.plain⟩
def tr114:List Nat:=[0,1,2,4]
def bd115:Stm:=
 q (q (h 2 .box (c1 (x 0))) (s [(4,i 0),(3,.cst (.slice none 0 0))])) (q (q (cl 8 116 (c2 (n1 (.ld 3 true) (x 2)) (.cst (.slice none 0 0)))) (q (.hv [(9,n1
 (.un .not) (x 8))] [] [(n1 (.un .not) (x 8),false)] (some 10) (.call false) (c3 (.cst (.func (.func 161) #[] #[])) (n1 (.ld 3 true) (x 2)) (x 1))) (.cond (p
 (x 9) (.cst (.bool true)) (n1 (.un .not) (x 10))) (q (s [(4,i 1),(3,.cst (.slice none 0 0))]) .ret) .skip))) (q (.cond (b .gtr (n1 .len (x 1)) (i 4096)) (q
 (s [(4,i 4),(3,.cst (.slice none 0 0))]) .ret) .skip) (q (q (cl 11 117 (c1 (n1 (.ld 3 true) (x 2)))) (q (h 5 (.alloc [.int .i64 0,.int .i64 0,.slice none
 0 0,.slice none 0 0]) .nil) (.hv [] [] [] none (.st 4) (c2 (x 5) (x 11))))) (q (q (h 12 (.bSl [.int .i64 0] 1 [0]) (c1 (i 1))) (s [(6,x 12)])) (q (q (s
 [(15,i 0),(14,n1 .len (x 1)),(13,x 1)]) (.block 0 (.loop (q (.cond (b .lss (x 15) (x 14)) .skip (.exit 0)) (q (.block 1 (q (s [(7,ld (n2 (.iAddr 1) (x
 13) (x 15)))]) (q (cl 16 162 (c (n1 (.ld 4 true) (x 5)) (c3 (x 6) (x 7) (i 0)))) (s [(6,x 16)])))) (s [(15,b .add (x 15) (i 1))])))))) (q (s [(4,i 0),(3,
 x 6)]) .ret))))))
def cf115:CF:=⟨2,17,[(.var 3),(.var 4)],bd115,.plain⟩
def tr115:List Nat:=[0,1,2,4,5,6,7,9,11,13,16,23,24,25,26,27,34]
def bd116:Stm:=
 q (q (h 2 .box (c1 (x 0))) (s [(3,.cst (.bool false))])) (q (q (cl 6 111 (c1 (n1 (.ld 3 true) (x 2)))) (.cond (n1 (.un .not) (x 6)) (q (s [(3,.cst (.bool
 false))]) .ret) .skip)) (q (q (s [(9,i 0),(8,n1 .len (x 1)),(7,x 1)]) (.block 0 (.loop (q (.cond (b .lss (x 9) (x 8)) .skip (.exit 0)) (q (.block 1 (q (s
 [(4,ld (n2 (.iAddr 1) (x 7) (x 9)))]) (q (s [(5,n1 .len (x 4))]) (q (.hv [(10,p (b .gtr (x 5) (i 4097)) (.cst (.bool true)) (p (b .gtr (x 5) (i 0)) (b .eql
 (ld (n2 (.iAddr 1) (x 4) (b .sub (x 5) (i 1)))) (i 0)) (.cst (.bool false))))] [] [(p (b .gtr (x 5) (i 4097)) (.cst (.bool true)) (p (b .gtr (x 5) (i 0)) (b
 .eql (ld (n2 (.iAddr 1) (x 4) (b .sub (x 5) (i 1)))) (i 0)) (.cst (.bool false))),false)] (some 11) (.call false) (c3 (.cst (.func (.func 161) #[] #[])) (n1
 (.ld 3 true) (x 2)) (x 4))) (.cond (p (x 10) (.cst (.bool true)) (n1 (.un .not) (x 11))) (q (s [(3,.cst (.bool false))]) .ret) .skip))))) (s [(9,b .add (x
 9) (i 1))])))))) (q (s [(3,.cst (.bool true))]) .ret)))
def cf116:CF:=⟨2,12,[(.var 3)],bd116,.plain⟩
def tr116:List Nat:=[0,1,2,4,6,7,9,11,12,13,33,36]
def bd117:Stm:=
 q (q (h 1 .box (c1 (x 0))) (h 2 (.alloc [.int .i64 0,.int .i64 0,.slice none 0 0,.slice none 0 0]) .nil)) (q (q (cl 7 131 (c1 (n1 (.ld 3 true) (x 1))))
 (.sets [(3,ix 0 (x 7))] [ix 1 (x 7)])) (q (q (.hv [(11,ld (fa 1 (x 1))),(9,ld (fa 1 (x 1))),(8,ld (fa 0 (x 1)))] [] [] (some 10) (.mkSl [.int .i64 0])
 (c2 (b .sub (ld (fa 1 (x 1))) (i 1)) (b .sub (ld (fa 1 (x 1))) (i 1)))) (q (h 12 (.mkSl [.int .i64 0]) (c2 (x 11) (x 11))) (q (.hv [(13,.node (.build [.int
 .i64 0,.int .i64 0,.slice none 0 0,.slice none 0 0] [(0,1),(1,1),(2,1),(3,1)]) (c (x 8) (c3 (x 9) (x 10) (x 12))))] [] [] (some 4) (.alloc [.int
 .i64 0,.int .i64 0,.slice none 0 0,.slice none 0 0]) .nil) (.hv [] [] [] none (.st 4) (c2 (x 4) (x 13)))))) (q (s [(5,i 1)]) (q (q (s [(15,i 0),(14,n1
 .len (ld (fa 2 (x 4))))]) (.block 0 (.loop (q (.cond (b .lss (x 15) (x 14)) .skip (.exit 0)) (q (.block 1 (q (s [(6,x 15)]) (q (q (.hv [(20,n2 (.iAddr 1)
 (ld (fa 2 (x 4))) (x 6)),(19,x 6),(18,x 5),(17,ld (fa 3 (x 4))),(16,fa 3 (x 4))] [] [] none (.st 1) (c2 (n2 (.iAddr 1) (ld (fa 2 (x 4))) (x 6)) (x
 5))) (q (.hv [] [] [] none (.st 1) (c2 (n2 (.iAddr 1) (x 17) (x 18)) (x 19))) (.dist (x 20) (x 16)))) (q (cl 21 132 (c3 (n1 (.ld 3 true) (x 1)) (x 5) (x 3)))
 (.sets [(5,ix 0 (x 21))] [ix 1 (x 21)]))))) (s [(15,b .add (x 15) (i 1))])))))) (q (.hv [] [] [] none (.st 4) (c2 (x 2) (n1 (.ld 4 true) (x 4)))) .ret)))))
def cf117:CF:=⟨1,22,[(.node (.ld 4 true) (.cons (.var 2) .nil))],bd117,.plain⟩
def tr117:List Nat:=[0,1,2,3,5,6,7,10,14,16,20,22,23,24,27,28,34,35,36,38,39,45]
def bd118:Stm:=
 q (q (h 3 .box (c1 (x 0))) (s [(5,.cst (.slice none 0 0)),(4,.cst (.slice none 0 0))])) (q (q (h 11 (.app 1 [.int .i64 0]) (c2 (.cst (.slice none 0 0)) (x
 1))) (s [(5,x 11)])) (q (s [(6,b .sub (n1 .len (x 2)) (i 1))]) (q (.cond (b .gtr (n1 .len (x 1)) (x 6)) (q (h 12 (.mkSl [.int .i64 0]) (c2 (b .sub (n1 .len
 (x 1)) (x 6)) (b .sub (n1 .len (x 1)) (x 6)))) (s [(4,x 12)])) .skip) (q (q (s [(7,b .sub (n1 .len (x 4)) (i 1))]) (.block 0 (.loop (q (.cond (b .geq (x 7)
 (i 0)) .skip (.exit 0)) (q (.block 1 (q (q (h 13 .callC (c (.cst (.func (.func 163) #[] #[])) (c3 (n1 (.ld 4 true) (x 3)) (ld (n2 (.iAddr 1) (x 5) (b .add (x
 7) (x 6)))) (ld (n2 (.iAddr 1) (x 2) (x 6)))))) (s [(8,x 13)])) (q (.hv [] [] [] none (.st 1) (c2 (n2 (.iAddr 1) (x 4) (x 7)) (x 8))) (q (s [(16,i 0),(15,
 n1 .len (x 2)),(14,x 2)]) (.block 2 (.loop (q (.cond (b .lss (x 16) (x 15)) .skip (.exit 2)) (q (.block 3 (q (s [(10,ld (n2 (.iAddr 1) (x 14) (x 16))),(9,
 x 16)]) (q (.hv [(20,ld (n2 (.iAddr 1) (x 5) (b .add (x 7) (x 9)))),(19,n1 (.ld 4 true) (x 3)),(18,b .add (x 7) (x 9)),(17,x 5)] [] [] (some 21)
 (.callK 2) (c (x 3) (c (n2 (.iAddr 1) (x 5) (b .add (x 7) (x 9))) (c (.cst (.func (.func 165) #[] #[])) (c3 (n1 (.ld 4 true) (x 3)) (x 8) (x 10)))))) (q (h 22
 .callC (c (.cst (.func (.func 164) #[] #[])) (c3 (x 19) (x 20) (x 21)))) (.hv [] [] [] none (.st 1) (c2 (n2 (.iAddr 1) (x 17) (x 18)) (x 22))))))) (s [(16,b
 .add (x 16) (i 1))]))))))))) (s [(7,b .sub (x 7) (i 1))])))))) (q (q (.hv [(23,x 4)] [] [] (some 24) (.call false) (c2 (.cst (.func (.func 71) #[] #[])) (x
 5))) (s [(5,x 24),(4,x 23)])) .ret)))))
def cf118:CF:=⟨3,25,[(.var 4),(.var 5)],bd118,.plain⟩
def tr118:List Nat:=[0,1,2,3,6,7,8,9,10,11,12,14,26,45,50,51,52,57,60,61,67,71,72,75,77]
def bd119:Stm:=
 q (q (h 2 .box (c1 (x 0))) (s [(3,.cst (.bool false))])) (q (q (cl 5 111 (c1 (n1 (.ld 3 true) (x 2)))) (.cond (n1 (.un .not) (x 5)) (q (s [(3,.cst (.bool
 false))]) .ret) .skip)) (q (q (s [(8,i 0),(7,n1 .len (x 1)),(6,x 1)]) (.block 0 (.loop (q (.cond (b .lss (x 8) (x 7)) .skip (.exit 0)) (q (.block 1 (q (s
 [(4,ld (n2 (.iAddr 1) (x 6) (x 8)))]) (.cond (p (b .lss (x 4) (i 0)) (.cst (.bool true)) (b .geq (x 4) (ld (fa 1 (x 2))))) (q (s [(3,.cst (.bool false))])
 .ret) .skip))) (s [(8,b .add (x 8) (i 1))])))))) (q (s [(3,.cst (.bool true))]) .ret)))
def cf119:CF:=⟨2,9,[(.var 3)],bd119,.plain⟩
def tr119:List Nat:=[0,1,2,4,6,8,10,11,12]
def bd120:Stm:=
 q (q (s [(3,.cst (.int .u64 0)),(2,.cst (.int .u64 0))]) (.cond (.cst (.bool false)) (q (q (cl 8 166 (c2 (n1 (.cvt .u32) (x 0)) (n1 (.cvt .u32) (x 1)))) (s
 [(5,ix 1 (x 8)),(4,ix 0 (x 8))])) (q (s [(3,n1 (.cvt .u64) (x 5)),(2,n1 (.cvt .u64) (x 4))]) .ret)) .skip)) (q (q (cl 9 167 (c2 (x 0) (x 1))) (s [(7,ix
 1 (x 9)),(6,ix 0 (x 9))])) (q (s [(3,x 7),(2,x 6)]) .ret))
def cf120:CF:=⟨2,10,[(.var 2),(.var 3)],bd120,.plain⟩
def tr120:List Nat:=[0,1,4,5,6,7,8,9,15,25]
def bd130:Stm:=
 q (s [(1,.cst (.bool false))]) (q (q (s [(5,i 0),(4,n1 .len (x 0)),(3,x 0)]) (.block 0 (.loop (q (.cond (b .lss (x 5) (x 4)) .skip (.exit 0)) (q (.block 1
 (q (s [(2,ld (n2 (.iAddr 1) (x 3) (x 5)))]) (.cond (p (b .lss (x 2) (i 1)) (.cst (.bool true)) (b .gtr (x 2) (i 65536))) (q (s [(1,.cst (.bool false))])
 .ret) .skip))) (s [(5,b .add (x 5) (i 1))])))))) (q (s [(1,.cst (.bool true))]) .ret))
def cf130:CF:=⟨1,6,[(.var 1)],bd130,.plain⟩
def tr130:List Nat:=[0,2,4,5,6,7]
def bd131:Stm:=
 q (q (h 1 .box (c1 (x 0))) (s [(3,i 0),(2,i 0)])) (q (q (cl 4 119 (c2 (n1 (.ld 3 true) (x 1)) (.cst (.slice none 0 0)))) (.cond (n1 (.un .not) (x 4)) (q (s
 [(3,i 1),(2,i 0)]) .ret) .skip)) (q (q (cl 5 175 (c1 (n1 (.ld 3 true) (x 1)))) (s [(3,i 0),(2,x 5)])) .ret))
def cf131:CF:=⟨1,6,[(.var 2),(.var 3)],bd131,.plain⟩
def tr131:List Nat:=[0,1,2,3,5,8]
def bd132:Stm:=
 q (q (h 3 .box (c1 (x 0))) (s [(5,i 0),(4,i 0)])) (q (q (.hv [(6,n1 (.ld 3 true) (x 3))] [] [] (some 7) (.bSl [.int .i64 0] 2 [0,1]) (c2 (x 1) (x 2))) (q
 (cl 8 119 (c2 (x 6) (x 7))) (.cond (n1 (.un .not) (x 8)) (q (s [(5,i 1),(4,i 0)]) .ret) .skip))) (q (q (cl 9 176 (c3 (n1 (.ld 3 true) (x 3)) (x 1) (x 2)))
 (s [(5,i 0),(4,x 9)])) .ret))
def cf132:CF:=⟨3,10,[(.var 4),(.var 5)],bd132,.plain⟩
def tr132:List Nat:=[0,1,2,3,6,7,8,11,12,17]
def bd133:Stm:=
 q (s [(1,.cst (.bool false))]) (q (q (.hv [(2,x 0)] [] [] (some 3) .callC (c (.cst (.func (.func 177) #[] #[])) (c3 (n1 (.ld 4 true) (fa 0 (n1 .nilChk (x
 0)))) (n1 (.ld 5 true) (fa 4 (n1 .nilChk (x 0)))) (ld (fa 9 (n1 .nilChk (x 0))))))) (.hv [] [] [] none (.st 1) (c2 (fa 12 (n1 .nilChk (x 2))) (x 3)))) (q (s
 [(1,b .leq (ld (fa 11 (n1 .nilChk (x 0)))) (ld (fa 3 (fa 4 (n1 .nilChk (x 0))))))]) .ret))
def cf133:CF:=⟨1,4,[(.var 1)],bd133,.plain⟩
def tr133:List Nat:=[0,2,3,16]
def bd134:Stm:=
 q (s [(1,.cst (.bool false))]) (q (q (.hv [(4,x 0)] [] [] (some 5) (.bSl [.int .i64 0] 1 [0]) (c1 (i 1))) (.hv [] [] [] none (.st 1) (c2 (fa 13 (n1 .nilChk (x
 4))) (x 5)))) (q (q (s [(8,i 0),(7,n1 .len (ld (fa 10 (n1 .nilChk (x 0))))),(6,ld (fa 10 (n1 .nilChk (x 0))))]) (.block 0 (.loop (q (.cond (b .lss (x 8)
 (x 7)) .skip (.exit 0)) (q (.block 1 (q (s [(3,ld (n2 (.iAddr 1) (x 6) (x 8))),(2,x 8)]) (.cond (x 3) (q (.hv [(16,n1 (.ld 4 true) (fa 0 (n1 .nilChk (x
 0)))),(15,ld (fa 13 (n1 .nilChk (x 0)))),(14,fa 13 (n1 .nilChk (x 0))),(13,ld (fa 13 (n1 .nilChk (x 0)))),(12,fa 13 (n1 .nilChk (x 0))),(11,n1 (.ld
 4 true) (fa 0 (n1 .nilChk (x 0)))),(10,fa 0 (n1 .nilChk (x 0))),(9,x 0)] [] [] (some 17) (.callK 4) (c (fa 0 (n1 .nilChk (x 0))) (c (fa 13 (n1 .nilChk (x
 0))) (c (fa 13 (n1 .nilChk (x 0))) (c (fa 0 (n1 .nilChk (x 0))) (c3 (.cst (.func (.func 179) #[] #[])) (x 0) (x 2))))))) (q (h 18 (.callK 3) (c (x 10) (c (x
 12) (c (x 14) (c3 (.cst (.func (.func 114) #[] #[])) (x 16) (x 17)))))) (q (h 19 .callC (c (.cst (.func (.func 178) #[] #[])) (c (x 11) (c (x 13) (c3 (x 15)
 (i 1) (x 18)))))) (.hv [] [] [] none (.st 1) (c2 (fa 13 (n1 .nilChk (x 9))) (x 19)))))) .skip))) (s [(8,b .add (x 8) (i 1))])))))) (q (s [(1,.cst (.bool
 true))]) .ret)))
def cf134:CF:=⟨1,20,[(.var 1)],bd134,.plain⟩
def tr134:List Nat:=[0,2,3,4,5,6,12,13,14,20,23,24,27,28,31,32,36,39,40,41]
def bd135:Stm:=
 q (s [(1,.cst (.bool false))]) (q (q (h 3 .callC (c (.cst (.func (.func 180) #[] #[])) (c (n1 (.ld 4 true) (fa 0 (n1 .nilChk (x 0)))) (c3 (ld (fa 12 (n1
 .nilChk (x 0)))) (ld (fa 13 (n1 .nilChk (x 0)))) (ld (fa 3 (fa 4 (n1 .nilChk (x 0))))))))) (s [(2,x 3)])) (q (q (.hv [(4,x 0)] [] [] (some 5) .callC (c3
 (.cst (.func (.func 181) #[] #[])) (n1 (.ld 4 true) (fa 0 (n1 .nilChk (x 0)))) (n2 (.sl 1 true false false) (x 2) (ld (fa 11 (n1 .nilChk (x 0))))))) (.hv []
 [] [] none (.st 1) (c2 (fa 14 (n1 .nilChk (x 4))) (x 5)))) (q (s [(1,b .leq (b .add (b .mul (i 2) (b .sub (n1 .len (ld (fa 14 (n1 .nilChk (x 0))))) (i 1)))
 (ld (fa 11 (n1 .nilChk (x 0))))) (ld (fa 3 (fa 4 (n1 .nilChk (x 0))))))]) .ret)))
def cf135:CF:=⟨1,6,[(.var 1)],bd135,.plain⟩
def tr135:List Nat:=[0,2,3,21,22,33]
def bd136:Stm:=
 q (s [(1,.cst (.bool false))]) (q (s [(2,i 0)]) (q (q (s [(8,i 0),(7,n1 .len (ld (fa 10 (n1 .nilChk (x 0))))),(6,ld (fa 10 (n1 .nilChk (x 0))))]) (.block
 0 (.loop (q (.cond (b .lss (x 8) (x 7)) .skip (.exit 0)) (q (.block 1 (q (s [(4,ld (n2 (.iAddr 1) (x 6) (x 8))),(3,x 8)]) (q (q (.hv [(10,b .sub (ld (fa 1
 (fa 0 (n1 .nilChk (x 0))))) (i 1)),(9,n1 (.ld 4 true) (fa 0 (n1 .nilChk (x 0))))] [] [] (some 11) (.callK 2) (c (fa 0 (n1 .nilChk (x 0))) (c (fa 1 (fa 0 (n1
 .nilChk (x 0)))) (c3 (.cst (.func (.func 179) #[] #[])) (x 0) (x 3))))) (q (h 12 .callC (c3 (.cst (.func (.func 114) #[] #[])) (x 9) (b .sub (x 10) (x 11))))
 (s [(5,x 12)]))) (q (.hv [(13,n1 (.un .not) (x 4))] [] [(n1 (.un .not) (x 4),true)] (some 14) .callC (c (.cst (.func (.func 182) #[] #[])) (c3 (n1 (.ld 4
 true) (fa 0 (n1 .nilChk (x 0)))) (ld (fa 14 (n1 .nilChk (x 0)))) (x 5)))) (.cond (p (x 13) (b .eql (x 14) (i 0)) (.cst (.bool false))) (q (s [(2,b .add (x 2)
 (i 1))]) (q (.hv [(16,ld (fa 15 (n1 .nilChk (x 0)))),(15,x 0)] [] [] (some 17) (.bSl [.int .i64 0] 1 [0]) (c1 (x 3))) (q (h 18 (.app 1 [.int .i64 0]) (c2
 (x 16) (x 17))) (.hv [] [] [] none (.st 1) (c2 (fa 15 (n1 .nilChk (x 15))) (x 18)))))) (.cond (x 4) (q (.hv [(20,ld (fa 15 (n1 .nilChk (x 0)))),(19,x 0)]
 [] [] (some 21) (.bSl [.int .i64 0] 1 [0]) (c1 (x 3))) (q (h 22 (.app 1 [.int .i64 0]) (c2 (x 20) (x 21))) (.hv [] [] [] none (.st 1) (c2 (fa 15 (n1 .nilChk
 (x 19))) (x 22))))) .skip)))))) (s [(8,b .add (x 8) (i 1))])))))) (q (s [(1,b .eql (x 2) (b .sub (n1 .len (ld (fa 14 (n1 .nilChk (x 0))))) (i 1)))]) .ret)))
def cf136:CF:=⟨1,23,[(.var 1)],bd136,.plain⟩
def tr136:List Nat:=[0,2,3,4,5,6,10,11,12,20,26,29,31,34,44,49,53,55,56,60,64,66,67]
def bd137:Stm:=
 q (s [(1,.cst (.bool false))]) (q (q (h 9 .callC (c (.cst (.func (.func 180) #[] #[])) (c (n1 (.ld 4 true) (fa 0 (n1 .nilChk (x 0)))) (c3 (ld (fa 13 (n1
 .nilChk (x 0)))) (ld (fa 14 (n1 .nilChk (x 0)))) (b .sub (b .add (n1 .len (ld (fa 13 (n1 .nilChk (x 0))))) (n1 .len (ld (fa 14 (n1 .nilChk (x 0)))))) (i
 1)))))) (s [(2,x 9)])) (q (q (h 10 .callC (c (.cst (.func (.func 180) #[] #[])) (c (n1 (.ld 4 true) (fa 0 (n1 .nilChk (x 0)))) (c3 (ld (fa 12 (n1 .nilChk (x
 0)))) (x 2) (ld (fa 3 (fa 4 (n1 .nilChk (x 0))))))))) (s [(3,x 10)])) (q (q (cl 11 183 (c2 (n1 (.ld 4 true) (fa 0 (n1 .nilChk (x 0)))) (x 2))) (s [(4,x
 11)])) (q (q (s [(14,i 0),(13,n1 .len (ld (fa 15 (n1 .nilChk (x 0))))),(12,ld (fa 15 (n1 .nilChk (x 0))))]) (.block 0 (.loop (q (.cond (b .lss (x 14) (x
 13)) .skip (.exit 0)) (q (.block 1 (q (s [(5,ld (n2 (.iAddr 1) (x 12) (x 14)))]) (q (q (.hv [(16,b .sub (ld (fa 1 (fa 0 (n1 .nilChk (x 0))))) (i 1)),(15,
 n1 (.ld 4 true) (fa 0 (n1 .nilChk (x 0))))] [] [] (some 17) (.callK 2) (c (fa 0 (n1 .nilChk (x 0))) (c (fa 1 (fa 0 (n1 .nilChk (x 0)))) (c3 (.cst (.func
 (.func 179) #[] #[])) (x 0) (x 5))))) (q (h 18 .callC (c3 (.cst (.func (.func 114) #[] #[])) (x 15) (b .sub (x 16) (x 17)))) (s [(6,x 18)]))) (q (q (.hv
 [(21,b .sub (b .add (ld (fa 4 (fa 4 (n1 .nilChk (x 0))))) (ld (fa 1 (fa 0 (n1 .nilChk (x 0)))))) (i 2)),(19,n1 (.ld 4 true) (fa 0 (n1 .nilChk (x 0))))] []
 [] (some 20) (.callK 3) (c (fa 0 (n1 .nilChk (x 0))) (c (fa 4 (fa 4 (n1 .nilChk (x 0)))) (c (fa 1 (fa 0 (n1 .nilChk (x 0)))) (c3 (.cst (.func (.func 179) #[]
 #[])) (x 0) (x 5)))))) (q (h 22 .callC (c3 (.cst (.func (.func 114) #[] #[])) (x 19) (b .mul (x 20) (x 21)))) (s [(7,x 22)]))) (q (q (.hv [(24,x 7),(23,n1
 (.ld 4 true) (fa 0 (n1 .nilChk (x 0))))] [] [] (some 25) (.callK 1) (c (fa 0 (n1 .nilChk (x 0))) (c (.cst (.func (.func 182) #[] #[])) (c3 (n1 (.ld 4 true)
 (fa 0 (n1 .nilChk (x 0)))) (x 4) (x 6))))) (q (h 26 .callC (c (.cst (.func (.func 184) #[] #[])) (c3 (x 23) (x 24) (x 25)))) (s [(8,x 26)]))) (q (.cond (b
 .eql (x 8) (i 0)) (q (s [(1,.cst (.bool false))]) .ret) .skip) (q (.hv [(37,x 8),(35,n1 (.ld 4 true) (fa 0 (n1 .nilChk (x 0)))),(34,ld (n2 (.iAddr 1)
 (ld (fa 9 (n1 .nilChk (x 0)))) (x 5))),(33,n2 (.iAddr 1) (ld (fa 9 (n1 .nilChk (x 0)))) (x 5)),(32,fa 9 (n1 .nilChk (x 0))),(31,n1 (.ld 4 true) (fa 0
 (n1 .nilChk (x 0)))),(30,fa 0 (n1 .nilChk (x 0))),(29,x 5),(28,ld (fa 9 (n1 .nilChk (x 0)))),(27,fa 9 (n1 .nilChk (x 0)))] [] [] (some 36) (.callK 5)
 (c (fa 9 (n1 .nilChk (x 0))) (c (fa 0 (n1 .nilChk (x 0))) (c (fa 9 (n1 .nilChk (x 0))) (c (n2 (.iAddr 1) (ld (fa 9 (n1 .nilChk (x 0)))) (x 5)) (c (fa 0 (n1
 .nilChk (x 0))) (c (.cst (.func (.func 182) #[] #[])) (c3 (n1 (.ld 4 true) (fa 0 (n1 .nilChk (x 0)))) (x 3) (x 6))))))))) (q (h 38 (.callK 4) (c (x 27) (c (x
 30) (c (x 32) (c (x 33) (c (.cst (.func (.func 186) #[] #[])) (c3 (x 35) (x 36) (x 37)))))))) (q (h 39 (.callK 1) (c (x 27) (c (.cst (.func (.func 185) #[]
 #[])) (c3 (x 31) (x 34) (x 38))))) (.hv [] [] [] none (.st 1) (c2 (n2 (.iAddr 1) (x 28) (x 29)) (x 39)))))))))))) (s [(14,b .add (x 14) (i 1))])))))) (q (s
 [(1,.cst (.bool true))]) .ret)))))
def cf137:CF:=⟨1,40,[(.var 1)],bd137,.plain⟩
def tr137:List Nat:=[0,2,3,4,5,7,8,9,10,35,50,56,60,61,62,69,75,78,80,84,87,99,101,105,106,113,114,119,120,121,124,125,128,131,132,136,143,144,145,146]
def bd138:Stm:=
 q (s [(1,.cst (.bool false))]) (q (q (q (.hv [(5,i 0)] [] [] (some 3) .callC (c (.cst (.func (.func 177) #[] #[])) (c3 (n1 (.ld 4 true) (fa 0 (n1 .nilChk (x
 0)))) (n1 (.ld 5 true) (fa 4 (n1 .nilChk (x 0)))) (ld (fa 9 (n1 .nilChk (x 0))))))) (s [(4,n1 .len (x 3))])) (.block 0 (.loop (q (.cond (b .lss (x 5) (x 4))
 .skip (.exit 0)) (q (.block 1 (q (s [(2,ld (n2 (.iAddr 1) (x 3) (x 5)))]) (.cond (b .neq (x 2) (i 0)) (q (s [(1,.cst (.bool false))]) .ret) .skip))) (s [(5,
 b .add (x 5) (i 1))])))))) (q (s [(1,.cst (.bool true))]) .ret))
def cf138:CF:=⟨1,6,[(.var 1)],bd138,.plain⟩
def tr138:List Nat:=[0,2,4,17,18,19]
def bd139:Stm:=
 q (q (cl 5 187 (c2 (n1 (.ld 2 true) (fa 2 (n1 .nilChk (x 0)))) (x 1))) (q (.hv [(8,ix 2 (x 5)),(7,ix 1 (x 5)),(6,ix 0 (x 5))] [] [] (some 2) (.alloc [.int
 .i64 0,.int .i64 0]) .nil) (q (.hv [] [] [] none (.st 2) (c2 (x 2) (x 6))) (s [(4,x 8),(3,x 7)])))) (q (.cond (n1 (.un .not) (x 4)) (.hv [] [] [] none
 .pan (c1 (n1 (.mkI 169) (n1 (.build [.int .i64 0] [(0,1)]) (i 22))))) .skip) (q (.cond (b .geq (x 3) (i 0)) (q (.hv [(10,ld (fa 4 (n1 .nilChk (x 0)))),(9,
 x 0)] [] [] (some 11) (.bSl [.int .u8 0] 1 [0]) (c1 (n1 (.cvt .u8) (x 3)))) (q (h 12 (.app 1 [.int .u8 0]) (c2 (x 10) (x 11))) (.hv [] [] [] none (.st 1) (c2
 (fa 4 (n1 .nilChk (x 9))) (x 12))))) .skip) (.hv [] [] [] none (.st 2) (c2 (fa 2 (n1 .nilChk (x 0))) (n1 (.ld 2 true) (x 2))))))
def cf139:CF:=⟨2,13,[],bd139,.plain⟩
def tr139:List Nat:=[0,1,4,5,6,13,14,15,16,23,27,30,31]
def bd140:Stm:=
 q (.cond (b .eql (ld (fa 1 (n1 .nilChk (x 0)))) (n1 .len (ld (fa 0 (n1 .nilChk (x 0)))))) (.hv [] [] [] none .pan (c1 (n1 (.mkI 169) (n1 (.build [.int .i64 0]
 [(0,1)]) (i 10))))) .skip) (q (s [(1,ld (n2 (.iAddr 1) (ld (fa 0 (n1 .nilChk (x 0)))) (ld (fa 1 (n1 .nilChk (x 0))))))]) (q (.cond (b .gtr (x 1) (i 255))
 (.hv [] [] [] none .pan (c1 (n1 (.mkI 169) (n1 (.build [.int .i64 0] [(0,1)]) (i 22))))) .skip) (q (.hv [] [] [] none (.st 1) (c2 (fa 1 (n1 .nilChk (x 0)))
 (b .add (ld (fa 1 (n1 .nilChk (x 0)))) (i 1)))) (q (q (.hv [(3,ld (fa 4 (n1 .nilChk (x 0)))),(2,x 0)] [] [] (some 4) (.bSl [.int .u8 0] 1 [0]) (c1 (n1
 (.cvt .u8) (x 1)))) (q (h 5 (.app 1 [.int .u8 0]) (c2 (x 3) (x 4))) (.hv [] [] [] none (.st 1) (c2 (fa 4 (n1 .nilChk (x 2))) (x 5))))) (.hv [] [] [] none (.st
 1) (c2 (fa 1 (fa 2 (n1 .nilChk (x 0)))) (i 0)))))))
def cf140:CF:=⟨1,6,[],bd140,.plain⟩
def tr140:List Nat:=[0,2,36,40,43,44]
def bd141:Stm:=
 q (s [(2,ld (fa 1 (n1 .nilChk (x 0))))]) (q (.block 0 (.loop (q (.cond (p (b .lss (x 2) (n1 .len (ld (fa 0 (n1 .nilChk (x 0)))))) (b .lss (ld (n2 (.iAddr 1)
 (ld (fa 0 (n1 .nilChk (x 0)))) (x 2))) (i 900)) (.cst (.bool false))) .skip (.exit 0)) (.block 1 (s [(2,b .add (x 2) (i 1))]))))) (q (s [(3,.node (.sl 1
 true true false) (c3 (ld (fa 0 (n1 .nilChk (x 0)))) (ld (fa 1 (n1 .nilChk (x 0)))) (x 2)))]) (q (.hv [] [] [] none (.st 1) (c2 (fa 1 (n1 .nilChk (x 0))) (x
 2))) (q (.cond (p (b .eql (x 1) (i 924)) (b .neq (b .rem (n1 .len (x 3)) (i 5)) (i 0)) (.cst (.bool false))) (.hv [] [] [] none .pan (c1 (n1 (.mkI 169) (n1
 (.build [.int .i64 0] [(0,1)]) (i 10))))) .skip) (q (.cond (p (b .lss (x 2) (n1 .len (ld (fa 0 (n1 .nilChk (x 0)))))) (b .eql (ld (n2 (.iAddr 1) (ld (fa 0
 (n1 .nilChk (x 0)))) (x 2))) (i 913)) (.cst (.bool false))) (.hv [] [] [] none .pan (c1 (n1 (.mkI 169) (n1 (.build [.int .i64 0] [(0,1)]) (i 22))))) .skip)
 (q (s [(6,x 1)]) (.block 2 (.cond (b .eql (x 6) (i 924)) (.hv [] [] [] none (.call false) (c (.cst (.func (.func 188) #[] #[])) (c3 (x 0) (x 3) (b .quo (n1
 .len (x 3)) (i 5))))) (.cond (b .eql (x 6) (i 901)) (.hv [] [] [] none (.call false) (c (.cst (.func (.func 188) #[] #[])) (c3 (x 0) (x 3) (b .quo (b .sub (n1
 .len (x 3)) (i 1)) (i 5))))) (q (q (cl 7 189 (c1 (x 3))) (s [(5,ix 1 (x 7)),(4,ix 0 (x 7))])) (q (.cond (n1 (.un .not) (x 5)) (.hv [] [] [] none .pan (c1
 (n1 (.mkI 169) (n1 (.build [.int .i64 0] [(0,1)]) (i 22))))) .skip) (q (.hv [(8,x 0)] [] [] (some 9) (.appS [.int .u8 0]) (c2 (ld (fa 4 (n1 .nilChk (x 0))))
 (x 4))) (.hv [] [] [] none (.st 1) (c2 (fa 4 (n1 .nilChk (x 8))) (x 9)))))))))))))))
def cf141:CF:=⟨2,10,[],bd141,.plain⟩
def tr141:List Nat:=[0,1,4,5,6,7,74,77,84,90]
def bd142:Stm:=
 q (s [(1,.cst (.bool false))]) (q (s [(1,b .neq (x 0) (x 0))]) .ret)
def cf142:CF:=⟨1,2,[(.var 1)],bd142,.plain⟩
def tr142:List Nat:=[0,2]
def bd153:Stm:=
 q (s [(2,i 0)]) (q (s [(3,i 0)]) (q (.block 0 (.loop (q (.cond (p (p (p (b .lss (x 3) (i 44)) (b .lss (b .add (x 1) (x 3)) (n1 .len (ld (fa 0 (n1 .nilChk (x
 0)))))) (.cst (.bool false))) (b .geq (ld (n2 (.iAddr 1) (ld (fa 0 (n1 .nilChk (x 0)))) (b .add (x 1) (x 3)))) (.cst (.int .u8 48))) (.cst (.bool false))) (b
 .leq (ld (n2 (.iAddr 1) (ld (fa 0 (n1 .nilChk (x 0)))) (b .add (x 1) (x 3)))) (.cst (.int .u8 57))) (.cst (.bool false))) .skip (.exit 0)) (.block 1 (s [(3,b
 .add (x 3) (i 1))]))))) (q (s [(2,x 3)]) .ret)))
def cf153:CF:=⟨2,4,[(.var 2)],bd153,.plain⟩
def tr153:List Nat:=[0,1,4,5]
def bd154:Stm:=
 q (s [(3,.cst (.slice none 0 0))]) (q (s [(4,.cst (.slice none 0 0))]) (q (q (s [(13,i 0)]) (.block 0 (.loop (q (.cond (b .lss (x 13) (i 30)) .skip (.exit
 0)) (q (.block 1 (q (s [(5,x 13)]) (q (q (.hv [(14,x 0)] [] [] (some 15) (.call false) (c2 (.cst (.func (.func 196) #[] #[])) (x 2))) (q (cl 16 195 (c (x
 14) (c3 (x 15) (x 5) (x 1)))) (q (.hv [(19,ix 2 (x 16)),(18,ix 1 (x 16)),(17,ix 0 (x 16))] [] [] (some 6) (.alloc [.int .i64 0,.int .i64 0]) .nil) (q
 (.hv [] [] [] none (.st 2) (c2 (x 6) (x 17))) (s [(8,x 19),(7,x 18)]))))) (q (.cond (n1 (.un .not) (x 8)) (.exit 1) .skip) (q (s [(20,i 0)]) (.block 2
 (.loop (q (.cond (b .lss (x 20) (i 30)) .skip (.exit 2)) (q (.block 3 (q (s [(9,x 20)]) (q (q (cl 21 195 (c (x 0) (c3 (n1 (.ld 2 true) (x 6)) (x 9) (b .add
 (x 1) (x 7))))) (q (.hv [(24,ix 2 (x 21)),(23,ix 1 (x 21)),(22,ix 0 (x 21))] [] [] (some 10) (.alloc [.int .i64 0,.int .i64 0]) .nil) (q (.hv [] [] []
 none (.st 2) (c2 (x 10) (x 22))) (s [(12,x 24),(11,x 23)])))) (.cond (x 12) (q (.hv [(27,b .add (x 7) (x 11)),(26,b .add (b .mul (i 30) (x 5)) (x 9)),
 (25,x 4)] [] [] (some 28) (.call false) (c2 (.cst (.func (.func 197) #[] #[])) (n1 (.ld 2 true) (x 10)))) (q (h 29 (.bSl [.int .i64 0,.int .i64 0,.int .i64
 0] 1 [0]) (c1 (.node (.build [.int .i64 0,.int .i64 0,.int .i64 0] [(0,1),(1,1),(2,1)]) (c3 (x 26) (x 27) (x 28))))) (q (h 30 (.app 3 [.int .i64 0,
 .int .i64 0,.int .i64 0]) (c2 (x 25) (x 29))) (s [(4,x 30)])))) .skip)))) (s [(20,b .add (x 20) (i 1))])))))))))) (s [(13,b .add (x 13) (i 1))])))))) (q
 (s [(3,x 4)]) .ret)))
def cf154:CF:=⟨3,31,[(.var 3)],bd154,.plain⟩
def tr154:List Nat:=[0,1,2,6,7,8,9,10,11,12,13,14,15,16,20,22,25,26,27,28,31,41,42,43,44,46,50,53,55,57,58]
def bd155:Stm:=
 .cond (b .lss (x 1) (ld (n1 .nilChk (x 0)))) (q (.hv [] [] [] none (.st 1) (c2 (n1 .nilChk (x 0)) (x 1))) (.hv [] [] [] none (.st 1) (c2 (x 2) (.cst (.bool
 true))))) .skip
def cf155:CF:=⟨3,3,[],bd155,.plain⟩
def tr155:List Nat:=[0,1,2]
def bd156:Stm:=
 q (s [(1,.cst (.slice none 0 0))]) (q (q (h 2 (.bSl [.int .i64 0,.int .i64 0,.int .i64 0,.int .i64 0,.int .i64 0] 4 [0,1,2,3]) (c (n2 (.build [.int .i64
 0,.int .i64 0,.int .i64 0,.int .i64 0,.int .i64 0] [(0,1),(1,4)]) (i 900) (n2 (.build [.int .i64 0,.int .i64 0,.int .i64 0,.int .i64 0] [(0,1),(1,
 1)]) (i 0) (x 0))) (c3 (n2 (.build [.int .i64 0,.int .i64 0,.int .i64 0,.int .i64 0,.int .i64 0] [(0,1),(1,4)]) (i 901) (n2 (.build [.int .i64 0,.int
 .i64 0,.int .i64 0,.int .i64 0] [(0,1),(1,1)]) (i 3) (x 0))) (n2 (.build [.int .i64 0,.int .i64 0,.int .i64 0,.int .i64 0,.int .i64 0] [(0,1),(1,
 4)]) (i 902) (n2 (.build [.int .i64 0,.int .i64 0,.int .i64 0,.int .i64 0] [(0,1),(1,1)]) (i 5) (x 0))) (n2 (.build [.int .i64 0,.int .i64 0,.int .i64
 0,.int .i64 0,.int .i64 0] [(0,1),(1,4)]) (i 924) (n2 (.build [.int .i64 0,.int .i64 0,.int .i64 0,.int .i64 0] [(0,1),(1,1)]) (i 2) (x 0)))))) (s
 [(1,x 2)])) .ret)
def cf156:CF:=⟨1,3,[(.var 1)],bd156,.plain⟩
def tr156:List Nat:=[0,2,15]
def bd157:Stm:=
 q (q (h 2 .box (c1 (x 1))) (s [(3,.cst (.slice none 0 0))])) (q (s [(4,.cst (.slice none 0 0))]) (q (.cond (p (b .eql (ld (fa 2 (x 2))) (i 0)) (b .eql (ld (fa
 0 (x 2))) (i 2)) (.cst (.bool false))) (q (cl 8 156 (c1 (ld (fa 1 (x 2))))) (s [(4,x 8)])) .skip) (q (.cond (p (p (b .eql (ld (fa 2 (x 2))) (i 0)) (b .eql
 (ld (fa 0 (x 2))) (i 3)) (.cst (.bool false))) (b .lss (ld (fa 1 (x 2))) (n1 .len (ld (fa 0 (n1 .nilChk (x 0)))))) (.cst (.bool false))) (q (.hv [(9,x 4)] []
 [] (some 10) (.bSl [.int .i64 0,.int .i64 0,.int .i64 0,.int .i64 0,.int .i64 0] 1 [0]) (c1 (n2 (.build [.int .i64 0,.int .i64 0,.int .i64 0,.int .i64
 0,.int .i64 0] [(0,1),(1,4)]) (n1 (.cvt .i64) (ld (n2 (.iAddr 1) (ld (fa 0 (n1 .nilChk (x 0)))) (ld (fa 1 (x 2)))))) (.node (.build [.int .i64 0,.int
 .i64 0,.int .i64 0,.int .i64 0] [(0,1),(1,1),(2,1)]) (c3 (i 4) (b .add (ld (fa 1 (x 2))) (i 1)) (i 1)))))) (q (h 11 (.app 5 [.int .i64 0,.int .i64 0,
 .int .i64 0,.int .i64 0,.int .i64 0]) (c2 (x 9) (x 10))) (s [(4,x 11)]))) .skip) (q (.cond (b .gtr (b .add (ld (fa 1 (x 2))) (i 6)) (n1 .len (ld (fa 0 (n1
 .nilChk (x 0)))))) (q (s [(3,x 4)]) .ret) .skip) (q (s [(5,i 0)]) (q (q (s [(14,i 0),(13,n1 .len (.node (.sl 1 true true false) (c3 (ld (fa 0 (n1 .nilChk
 (x 0)))) (ld (fa 1 (x 2))) (b .add (ld (fa 1 (x 2))) (i 6))))),(12,.node (.sl 1 true true false) (c3 (ld (fa 0 (n1 .nilChk (x 0)))) (ld (fa 1 (x 2))) (b
 .add (ld (fa 1 (x 2))) (i 6))))]) (.block 0 (.loop (q (.cond (b .lss (x 14) (x 13)) .skip (.exit 0)) (q (.block 1 (q (s [(6,ld (n2 (.iAddr 1) (x 12) (x
 14)))]) (s [(5,b .add (b .shl (x 5) (.cst (.int .u64 8))) (n1 (.cvt .i64) (x 6)))]))) (s [(14,b .add (x 14) (i 1))])))))) (q (q (s [(16,i 0),(15,b .sub
 (i 4) (ld (fa 2 (x 2))))]) (.block 2 (.loop (q (.cond (b .lss (x 16) (x 15)) .skip (.exit 2)) (q (.block 3 (s [(5,b .quo (x 5) (i 900))])) (s [(16,b .add (x
 16) (i 1))])))))) (q (q (.hv [(17,.node (.build [.int .i64 0,.int .i64 0,.int .i64 0,.int .i64 0] [(0,1),(1,1),(2,1)]) (c3 (ld (fa 0 (x 2))) (ld (fa
 1 (x 2))) (b .add (ld (fa 2 (x 2))) (i 1))))] [] [] (some 7) (.alloc [.int .i64 0,.int .i64 0,.int .i64 0,.int .i64 0]) .nil) (.hv [] [] [] none (.st 4)
 (c2 (x 7) (x 17)))) (q (.cond (b .eql (ld (fa 2 (x 2))) (i 4)) (.hv [] [] [] none (.st 4) (c2 (x 7) (n2 (.build [.int .i64 0,.int .i64 0,.int .i64 0,.int
 .i64 0] [(0,1),(1,1)]) (ld (fa 0 (x 2))) (b .add (ld (fa 1 (x 2))) (i 6))))) .skip) (q (q (.hv [(18,x 4)] [] [] (some 19) (.bSl [.int .i64 0,.int .i64 0,
 .int .i64 0,.int .i64 0,.int .i64 0] 1 [0]) (c1 (n2 (.build [.int .i64 0,.int .i64 0,.int .i64 0,.int .i64 0,.int .i64 0] [(0,1),(1,4)]) (b .rem (x
 5) (i 900)) (n1 (.ld 4 true) (x 7))))) (q (h 20 (.app 5 [.int .i64 0,.int .i64 0,.int .i64 0,.int .i64 0,.int .i64 0]) (c2 (x 18) (x 19))) (s [(3,x
 20)]))) .ret))))))))))
def cf157:CF:=⟨2,21,[(.var 3)],bd157,.plain⟩
def tr157:List Nat:=[0,1,3,4,5,6,8,9,20,39,54,55,75,76,77,89,90,102,112,117,118]
def bd158:Stm:=
 q (q (h 3 .box (c1 (x 1))) (s [(4,.cst (.slice none 0 0))])) (q (.cond (b .gtr (ld (fa 2 (x 3))) (i 0)) (q (q (.hv [(14,b .add (ld (fa 3 (x 3))) (i 1)),(13,
 ld (fa 2 (x 3))),(12,ld (fa 1 (x 3))),(10,ld (fa 3 (x 3))),(9,fa 3 (x 3))] [] [] (some 8) (.callK 4) (c (fa 3 (x 3)) (c (fa 1 (x 3)) (c (fa 2 (x 3)) (c
 (fa 3 (x 3)) (c (.cst (.func (.func 198) #[] #[])) (c3 (x 0) (ld (fa 1 (x 3))) (ld (fa 2 (x 3)))))))))) (q (.hv [(11,ld (n2 (.iAddr 1) (x 8) (x 10)))] [] []
 (some 15) (.callK 2) (c (x 9) (c (n2 (.iAddr 1) (x 8) (x 10)) (c (.cst (.func (.func 199) #[] #[])) (c3 (x 12) (x 13) (x 14)))))) (q (h 16 (.bSl [.int .i64 0,
 .int .i64 0,.int .i64 0,.int .i64 0,.int .i64 0] 1 [0]) (c1 (n2 (.build [.int .i64 0,.int .i64 0,.int .i64 0,.int .i64 0,.int .i64 0] [(0,1),(1,4)])
 (x 11) (x 15)))) (s [(4,x 16)])))) .ret) .skip) (q (q (cl 17 156 (c1 (ld (fa 1 (x 3))))) (s [(5,x 17)])) (q (q (s [(6,i 1)]) (.block 0 (.loop (q (q (.hv
 [(18,x 6)] [] [] (some 19) (.call false) (c3 (.cst (.func (.func 153) #[] #[])) (x 0) (ld (fa 1 (x 3))))) (.cond (b .leq (x 18) (x 19)) .skip (.exit 0))) (q
 (.block 1 (q (q (cl 20 199 (c3 (ld (fa 1 (x 3))) (x 6) (i 1))) (q (h 7 (.alloc [.int .i64 0,.int .i64 0,.int .i64 0,.int .i64 0]) .nil) (.hv [] [] [] none
 (.st 4) (c2 (x 7) (x 20))))) (q (cl 21 63 (c2 (x 0) (n1 (.ld 4 true) (x 7)))) (.cond (b .eql (x 21) (x 2)) (q (.hv [(24,n1 (.ld 4 true) (x 7)),(22,x 5)] []
 [] (some 23) (.callK 1) (c (x 7) (c (.cst (.func (.func 198) #[] #[])) (c3 (x 0) (ld (fa 1 (x 3))) (x 6))))) (q (h 25 (.bSl [.int .i64 0,.int .i64 0,.int
 .i64 0,.int .i64 0,.int .i64 0] 1 [0]) (c1 (n2 (.build [.int .i64 0,.int .i64 0,.int .i64 0,.int .i64 0,.int .i64 0] [(0,1),(1,4)]) (ld (n2 (.iAddr
 1) (x 23) (i 0))) (x 24)))) (q (h 26 (.app 5 [.int .i64 0,.int .i64 0,.int .i64 0,.int .i64 0,.int .i64 0]) (c2 (x 22) (x 25))) (s [(5,x 26)]))))
 .skip)))) (s [(6,b .add (x 6) (i 1))])))))) (q (s [(4,x 5)]) .ret))))
def cf158:CF:=⟨3,27,[(.var 4)],bd158,.plain⟩
def tr158:List Nat:=[0,1,2,4,6,7,8,9,18,19,20,22,24,26,29,30,32,35,36,40,47,50,53,58,61,63,64]
def bd159:Stm:=
 q (s [(1,i 0)]) (q (q (cl 2 200 (c1 (n1 (.cvt .u64) (x 0)))) (s [(1,b .sub (x 2) (i 1))])) .ret)
def cf159:CF:=⟨1,3,[(.var 1)],bd159,.plain⟩
def tr159:List Nat:=[0,2,5]
def bd160:Stm:=
 q (s [(1,.cst (.bool false))]) (q (q (s [(2,i 2)]) (.block 0 (.loop (q (q (cl 3 159 (c1 (x 2))) (q (.hv [(4,b .mul (i 2) (x 3))] [] [] (some 5) (.call false)
 (c2 (.cst (.func (.func 159) #[] #[])) (x 0))) (.cond (b .leq (x 4) (x 5)) .skip (.exit 0)))) (q (.block 1 (q (cl 6 201 (c2 (x 0) (x 2))) (.cond (b .eql (x 6)
 (i 0)) (q (s [(1,.cst (.bool false))]) .ret) .skip))) (s [(2,b .add (x 2) (i 1))])))))) (q (s [(1,.cst (.bool true))]) .ret))
def cf160:CF:=⟨1,7,[(.var 1)],bd160,.plain⟩
def tr160:List Nat:=[0,2,3,5,6,8,14]
def bd161:Stm:=
 q (q (h 2 .box (c1 (x 0))) (s [(3,.cst (.bool false))])) (q (q (s [(7,i 0),(6,n1 .len (x 1)),(5,x 1)]) (.block 0 (.loop (q (.cond (b .lss (x 7) (x 6))
 .skip (.exit 0)) (q (.block 1 (q (s [(4,ld (n2 (.iAddr 1) (x 5) (x 7)))]) (.cond (p (b .lss (x 4) (i 0)) (.cst (.bool true)) (b .geq (x 4) (ld (fa 1 (x
 2))))) (q (s [(3,.cst (.bool false))]) .ret) .skip))) (s [(7,b .add (x 7) (i 1))])))))) (q (s [(3,.cst (.bool true))]) .ret))
def cf161:CF:=⟨2,8,[(.var 3)],bd161,.plain⟩
def tr161:List Nat:=[0,1,2,4,6,7,8,9]
def bd162:Stm:=
 q (q (h 4 .box (c1 (x 0))) (s [(5,.cst (.slice none 0 0))])) (q (q (h 9 (.mkSl [.int .i64 0]) (c2 (b .add (n1 .len (x 1)) (i 1)) (b .add (n1 .len (x 1)) (i
 1)))) (s [(6,x 9)])) (q (.hv [] [] [] none (.st 1) (c2 (n2 (.iAddr 1) (x 6) (i 0)) (x 3))) (q (q (s [(12,i 0),(11,n1 .len (x 1)),(10,x 1)]) (.block 0
 (.loop (q (.cond (b .lss (x 12) (x 11)) .skip (.exit 0)) (q (.block 1 (q (s [(8,ld (n2 (.iAddr 1) (x 10) (x 12))),(7,x 12)]) (q (q (.hv [(16,ld (n2
 (.iAddr 1) (x 6) (x 7))),(15,n1 (.ld 4 true) (x 4)),(14,x 7),(13,x 6)] [] [] (some 17) (.callK 2) (c (x 4) (c (n2 (.iAddr 1) (x 6) (x 7)) (c (.cst
 (.func (.func 165) #[] #[])) (c3 (n1 (.ld 4 true) (x 4)) (x 8) (x 2)))))) (q (h 18 .callC (c (.cst (.func (.func 164) #[] #[])) (c3 (x 15) (x 16) (x 17))))
 (.hv [] [] [] none (.st 1) (c2 (n2 (.iAddr 1) (x 13) (x 14)) (x 18))))) (.hv [] [] [] none (.st 1) (c2 (n2 (.iAddr 1) (x 6) (b .add (x 7) (i 1))) (x 8))))))
 (s [(12,b .add (x 12) (i 1))])))))) (q (s [(5,x 6)]) .ret))))
def cf162:CF:=⟨4,19,[(.var 5)],bd162,.plain⟩
def tr162:List Nat:=[0,1,2,3,4,8,9,10,11,15,19,20,21,26,27,28,32,36,37]
def bd163:Stm:=
 q (q (h 3 .box (c1 (x 0))) (s [(4,i 0)])) (q (.cond (b .eql (x 1) (i 0)) (q (s [(4,i 0)]) .ret) .skip) (q (s [(4,ld (n2 (.iAddr 1) (ld (fa 2 (x 3))) (b .rem
 (b .sub (b .add (b .sub (ld (n2 (.iAddr 1) (ld (fa 3 (x 3))) (x 1))) (ld (n2 (.iAddr 1) (ld (fa 3 (x 3))) (x 2)))) (ld (fa 1 (x 3)))) (i 1)) (b .sub (ld (fa 1
 (x 3))) (i 1)))))]) .ret))
def cf163:CF:=⟨3,5,[(.var 4)],bd163,.plain⟩
def tr163:List Nat:=[0,1,2,3,6]
def bd164:Stm:=
 q (q (h 3 .box (c1 (x 0))) (s [(4,i 0)])) (q (.cond (b .eql (ld (fa 0 (x 3))) (i 2)) (q (s [(4,b .xor (x 1) (x 2))]) .ret) .skip) (q (s [(4,b .rem (b .add (b
 .sub (x 1) (x 2)) (ld (fa 1 (x 3)))) (ld (fa 1 (x 3))))]) .ret))
def cf164:CF:=⟨3,5,[(.var 4)],bd164,.plain⟩
def tr164:List Nat:=[0,1,2,3,6]
def bd165:Stm:=
 q (q (h 3 .box (c1 (x 0))) (s [(4,i 0)])) (q (.cond (p (b .eql (x 1) (i 0)) (.cst (.bool true)) (b .eql (x 2) (i 0))) (q (s [(4,i 0)]) .ret) .skip) (q (s [(4,
 ld (n2 (.iAddr 1) (ld (fa 2 (x 3))) (b .rem (b .add (ld (n2 (.iAddr 1) (ld (fa 3 (x 3))) (x 1))) (ld (n2 (.iAddr 1) (ld (fa 3 (x 3))) (x 2)))) (b .sub (ld (fa
 1 (x 3))) (i 1)))))]) .ret))
def cf165:CF:=⟨3,5,[(.var 4)],bd165,.plain⟩
def tr165:List Nat:=[0,1,2,3,6]
def bd166:Stm:=
 q (s [(3,.cst (.int .u32 0)),(2,.cst (.int .u32 0))]) (q (s [(4,b .mul (n1 (.cvt .u64) (x 0)) (n1 (.cvt .u64) (x 1)))]) (q (s [(3,n1 (.cvt .u32) (x 4)),
 (2,n1 (.cvt .u32) (b .shr (x 4) (.cst (.int .u64 32))))]) .ret))
def cf166:CF:=⟨2,5,[(.var 2),(.var 3)],bd166,.plain⟩
def tr166:List Nat:=[0,1,4,5,6]
def bd167:Stm:=
 q (s [(3,.cst (.int .u64 0)),(2,.cst (.int .u64 0))]) (q (s [(4,b .and (x 0) (.cst (.int .u64 4294967295)))]) (q (s [(5,b .shr (x 0) (.cst (.int .u64
 32)))]) (q (s [(6,b .and (x 1) (.cst (.int .u64 4294967295)))]) (q (s [(7,b .shr (x 1) (.cst (.int .u64 32)))]) (q (s [(8,b .mul (x 4) (x 6))]) (q (s [(9,
 b .add (b .mul (x 5) (x 6)) (b .shr (x 8) (.cst (.int .u64 32))))]) (q (s [(10,b .and (x 9) (.cst (.int .u64 4294967295)))]) (q (s [(11,b .shr (x 9) (.cst
 (.int .u64 32)))]) (q (s [(10,b .add (x 10) (b .mul (x 4) (x 7)))]) (q (s [(2,b .add (b .add (b .mul (x 5) (x 7)) (x 11)) (b .shr (x 10) (.cst (.int .u64
 32))))]) (q (s [(3,b .mul (x 0) (x 1))]) .ret)))))))))))
def cf167:CF:=⟨2,12,[(.var 2),(.var 3)],bd167,.plain⟩
def tr167:List Nat:=[0,1,4,5,6,7,8,9,10,11,12,13]
def bd175:Stm:=
 q (q (h 1 .box (c1 (x 0))) (s [(2,i 0)])) (q (s [(3,i 1)]) (q (.block 0 (.loop (q (q (.hv [(5,b .sub (ld (fa 1 (x 1))) (i 1))] [] [] (some 4) (.callK 1) (c
 (fa 1 (x 1)) (c3 (.cst (.func (.func 203) #[] #[])) (n1 (.ld 3 true) (x 1)) (x 3)))) (.cond (b .neq (x 4) (x 5)) .skip (.exit 0))) (.block 1 (s [(3,b .add (x
 3) (i 1))]))))) (q (s [(2,x 3)]) .ret)))
def cf175:CF:=⟨1,6,[(.var 2)],bd175,.plain⟩
def tr175:List Nat:=[0,1,2,3,6,9]
def bd176:Stm:=
 q (q (h 3 .box (c1 (x 0))) (s [(4,i 0)])) (q (.cond (b .eql (ld (fa 2 (x 3))) (i 0)) (q (s [(4,b .rem (b .mul (x 1) (x 2)) (ld (fa 1 (x 3))))]) .ret) .skip)
 (q (s [(5,i 0)]) (q (.block 0 (.loop (q (.cond (b .gtr (x 2) (i 0)) .skip (.exit 0)) (q (.block 1 (q (.cond (b .eql (b .and (x 2) (i 1)) (i 1)) (s [(5,b
 .xor (x 5) (x 1))]) .skip) (q (s [(1,b .shl (x 1) (.cst (.int .u64 1)))]) (.cond (b .geq (x 1) (ld (fa 1 (x 3)))) (s [(1,b .xor (x 1) (ld (fa 2 (x 3))))])
 .skip)))) (s [(2,b .shr (x 2) (.cst (.int .u64 1)))]))))) (q (s [(4,x 5)]) .ret))))
def cf176:CF:=⟨3,6,[(.var 4)],bd176,.plain⟩
def tr176:List Nat:=[0,1,2,3,6,7]
def bd177:Stm:=
 q (q (h 3 .box (c1 (x 0))) (q (h 4 .box (c1 (x 1))) (s [(5,.cst (.slice none 0 0))]))) (q (q (h 10 (.mkSl [.int .i64 0]) (c2 (ld (fa 3 (x 4))) (ld (fa 3 (x
 4))))) (s [(6,x 10)])) (q (q (s [(12,i 0),(11,n1 .len (x 6))]) (.block 0 (.loop (q (.cond (b .lss (x 12) (x 11)) .skip (.exit 0)) (q (.block 1 (q (s [(7,
 x 12)]) (q (q (cl 13 114 (c2 (n1 (.ld 4 true) (x 3)) (b .add (ld (fa 4 (x 4))) (x 7)))) (s [(8,x 13)])) (q (s [(16,i 0),(15,n1 .len (x 2)),(14,x 2)])
 (.block 2 (.loop (q (.cond (b .lss (x 16) (x 15)) .skip (.exit 2)) (q (.block 3 (q (s [(9,ld (n2 (.iAddr 1) (x 14) (x 16)))]) (q (.hv [(21,x 9),(19,n1
 (.ld 4 true) (x 3)),(18,x 7),(17,x 6)] [] [] (some 20) (.callK 1) (c (x 3) (c (.cst (.func (.func 184) #[] #[])) (c3 (n1 (.ld 4 true) (x 3)) (ld (n2
 (.iAddr 1) (x 6) (x 7))) (x 8))))) (q (h 22 .callC (c (.cst (.func (.func 185) #[] #[])) (c3 (x 19) (x 20) (x 21)))) (.hv [] [] [] none (.st 1) (c2 (n2
 (.iAddr 1) (x 17) (x 18)) (x 22))))))) (s [(16,b .add (x 16) (i 1))]))))))))) (s [(12,b .add (x 12) (i 1))])))))) (q (s [(5,x 6)]) .ret)))
def cf177:CF:=⟨3,23,[(.var 5)],bd177,.plain⟩
def tr177:List Nat:=[0,1,2,3,4,6,7,8,9,11,14,16,17,25,26,27,28,32,33,34,41,42,43]
def bd178:Stm:=
 q (q (h 5 .box (c1 (x 0))) (s [(6,.cst (.slice none 0 0))])) (q (q (h 10 (.mkSl [.int .i64 0]) (c2 (n2 (.minmax true) (n1 .len (x 1)) (b .add (n1 .len (x 2))
 (x 3))) (n2 (.minmax true) (n1 .len (x 1)) (b .add (n1 .len (x 2)) (x 3))))) (s [(7,x 10)])) (q (.hv [] [] [] none (.cpy 1) (c2 (x 7) (x 1))) (q (q (s [(13,
 i 0),(12,n1 .len (x 2)),(11,x 2)]) (.block 0 (.loop (q (.cond (b .lss (x 13) (x 12)) .skip (.exit 0)) (q (.block 1 (q (s [(9,ld (n2 (.iAddr 1) (x 11) (x
 13))),(8,x 13)]) (q (.hv [(17,ld (n2 (.iAddr 1) (x 7) (b .add (x 8) (x 3)))),(16,n1 (.ld 4 true) (x 5)),(15,b .add (x 8) (x 3)),(14,x 7)] [] [] (some
 18) (.callK 2) (c (x 5) (c (n2 (.iAddr 1) (x 7) (b .add (x 8) (x 3))) (c (.cst (.func (.func 184) #[] #[])) (c3 (n1 (.ld 4 true) (x 5)) (x 4) (x 9)))))) (q (h
 19 .callC (c (.cst (.func (.func 204) #[] #[])) (c3 (x 16) (x 17) (x 18)))) (.hv [] [] [] none (.st 1) (c2 (n2 (.iAddr 1) (x 14) (x 15)) (x 19))))))) (s [(13,
 b .add (x 13) (i 1))])))))) (q (s [(6,x 7)]) .ret))))
def cf178:CF:=⟨5,20,[(.var 6)],bd178,.plain⟩
def tr178:List Nat:=[0,1,2,3,4,5,10,11,12,13,21,25,26,27,32,35,36,42,46,47]
def bd179:Stm:=
 q (s [(2,i 0)]) (q (s [(2,b .sub (b .sub (n1 .len (ld (fa 9 (n1 .nilChk (x 0))))) (i 1)) (x 1))]) .ret)
def cf179:CF:=⟨2,3,[(.var 2)],bd179,.plain⟩
def tr179:List Nat:=[0,1,4]
def bd180:Stm:=
 q (q (h 4 .box (c1 (x 0))) (s [(5,.cst (.slice none 0 0))])) (q (q (h 10 (.mkSl [.int .i64 0]) (c2 (x 3) (x 3))) (s [(6,x 10)])) (q (q (s [(13,i 0),(12,n1
 .len (x 1)),(11,x 1)]) (.block 0 (.loop (q (.cond (b .lss (x 13) (x 12)) .skip (.exit 0)) (q (.block 1 (q (s [(8,ld (n2 (.iAddr 1) (x 11) (x 13))),(7,x
 13)]) (q (s [(9,i 0)]) (.block 2 (.loop (q (.cond (p (b .lss (x 9) (n1 .len (x 2))) (b .lss (b .add (x 7) (x 9)) (x 3)) (.cst (.bool false))) .skip (.exit
 2)) (q (.block 3 (q (.hv [(17,ld (n2 (.iAddr 1) (x 6) (b .add (x 7) (x 9)))),(16,n1 (.ld 4 true) (x 4)),(15,b .add (x 7) (x 9)),(14,x 6)] [] [] (some
 18) (.callK 2) (c (x 4) (c (n2 (.iAddr 1) (x 6) (b .add (x 7) (x 9))) (c (.cst (.func (.func 184) #[] #[])) (c3 (n1 (.ld 4 true) (x 4)) (x 8) (ld (n2 (.iAddr
 1) (x 2) (x 9)))))))) (q (h 19 .callC (c (.cst (.func (.func 185) #[] #[])) (c3 (x 16) (x 17) (x 18)))) (.hv [] [] [] none (.st 1) (c2 (n2 (.iAddr 1) (x 14)
 (x 15)) (x 19)))))) (s [(9,b .add (x 9) (i 1))])))))))) (s [(13,b .add (x 13) (i 1))])))))) (q (s [(5,x 6)]) .ret)))
def cf180:CF:=⟨4,20,[(.var 5)],bd180,.plain⟩
def tr180:List Nat:=[0,1,2,3,4,8,9,10,11,12,14,15,16,17,35,38,39,45,52,53]
def bd181:Stm:=
 q (q (h 2 .box (c1 (x 0))) (s [(3,.cst (.slice none 0 0))])) (q (q (h 14 (.bSl [.int .i64 0] 1 [0]) (c1 (i 1))) (q (h 15 (.bSl [.int .i64 0] 1 [0]) (c1 (i 1)))
 (s [(5,x 15),(4,x 14)]))) (q (s [(8,i 1),(7,i 1),(6,i 0)]) (q (q (s [(17,i 0),(16,n1 .len (x 1))]) (.block 0 (.loop (q (.cond (b .lss (x 17) (x
 16)) .skip (.exit 0)) (q (.block 1 (q (s [(9,x 17)]) (q (s [(10,i 0)]) (q (q (s [(11,i 0)]) (.block 2 (.loop (q (.cond (p (b .leq (x 11) (x 6)) (b .lss (x
 11) (n1 .len (x 4))) (.cst (.bool false))) .skip (.exit 2)) (q (.block 3 (q (.hv [(19,x 10),(18,n1 (.ld 4 true) (x 2))] [] [] (some 20) (.callK 1) (c (x 2)
 (c (.cst (.func (.func 184) #[] #[])) (c3 (n1 (.ld 4 true) (x 2)) (ld (n2 (.iAddr 1) (x 4) (x 11))) (ld (n2 (.iAddr 1) (x 1) (b .sub (x 9) (x 11)))))))) (q (h
 21 .callC (c (.cst (.func (.func 185) #[] #[])) (c3 (x 18) (x 19) (x 20)))) (s [(10,x 21)])))) (s [(11,b .add (x 11) (i 1))])))))) (q (.cond (b .eql (x 10)
 (i 0)) (q (s [(7,b .add (x 7) (i 1))]) (.exit 1)) .skip) (q (q (.hv [(25,x 7),(24,x 5),(23,x 4),(22,n1 (.ld 4 true) (x 2))] [] [] (some 26) (.callK 1)
 (c (x 2) (c (.cst (.func (.func 186) #[] #[])) (c3 (n1 (.ld 4 true) (x 2)) (x 10) (x 8))))) (q (h 27 .callC (c (.cst (.func (.func 178) #[] #[])) (c (x 22) (c
 (x 23) (c3 (x 24) (x 25) (x 26)))))) (s [(12,x 27)]))) (q (.cond (b .leq (b .mul (i 2) (x 6)) (x 9)) (s [(7,i 1),(8,x 10),(6,b .sub (b .add (x 9) (i 1))
 (x 6)),(5,x 4)]) (s [(7,b .add (x 7) (i 1))])) (s [(4,x 12)])))))))) (s [(17,b .add (x 17) (i 1))])))))) (q (s [(13,n1 .len (x 4))]) (q (.block 4 (.loop
 (q (.cond (b .eql (ld (n2 (.iAddr 1) (x 4) (b .sub (x 13) (i 1)))) (i 0)) .skip (.exit 4)) (.block 5 (s [(13,b .sub (x 13) (i 1))]))))) (q (s [(3,n2 (.sl 1
 false true false) (x 4) (x 13))]) .ret))))))
def cf181:CF:=⟨2,28,[(.var 3)],bd181,.plain⟩
def tr181:List Nat:=[0,1,2,4,5,6,7,8,9,10,11,12,13,14,15,16,18,19,33,34,46,47,52,53,54,55,59,60]
def bd182:Stm:=
 q (q (h 3 .box (c1 (x 0))) (s [(4,i 0)])) (q (s [(5,i 0)]) (q (q (s [(6,b .sub (n1 .len (x 1)) (i 1))]) (.block 0 (.loop (q (.cond (b .geq (x 6) (i 0)) .skip
 (.exit 0)) (q (.block 1 (q (.hv [(9,ld (n2 (.iAddr 1) (x 1) (x 6))),(7,n1 (.ld 4 true) (x 3))] [] [] (some 8) (.callK 2) (c (x 3) (c (n2 (.iAddr 1) (x 1)
 (x 6)) (c (.cst (.func (.func 184) #[] #[])) (c3 (n1 (.ld 4 true) (x 3)) (x 5) (x 2)))))) (q (h 10 .callC (c (.cst (.func (.func 185) #[] #[])) (c3 (x 7) (x
 8) (x 9)))) (s [(5,x 10)])))) (s [(6,b .sub (x 6) (i 1))])))))) (q (s [(4,x 5)]) .ret)))
def cf182:CF:=⟨3,11,[(.var 4)],bd182,.plain⟩
def tr182:List Nat:=[0,1,2,3,6,7,8,16,20,24,25]
def bd183:Stm:=
 q (q (h 2 .box (c1 (x 0))) (s [(3,.cst (.slice none 0 0))])) (q (s [(4,.cst (.slice none 0 0))]) (q (q (s [(5,i 1)]) (.block 0 (.loop (q (.cond (b .lss (x 5)
 (n1 .len (x 1))) .skip (.exit 0)) (q (.block 1 (q (.hv [(6,x 4)] [] [] (some 7) .callC (c (.cst (.func (.func 184) #[] #[])) (c3 (n1 (.ld 4 true) (x 2)) (b
 .rem (x 5) (ld (fa 0 (x 2)))) (ld (n2 (.iAddr 1) (x 1) (x 5)))))) (q (h 8 (.bSl [.int .i64 0] 1 [0]) (c1 (x 7))) (q (h 9 (.app 1 [.int .i64 0]) (c2 (x 6) (x
 8))) (s [(4,x 9)]))))) (s [(5,b .add (x 5) (i 1))])))))) (q (s [(3,x 4)]) .ret)))
def cf183:CF:=⟨2,10,[(.var 3)],bd183,.plain⟩
def tr183:List Nat:=[0,1,2,4,5,6,13,23,24,25]
def bd184:Stm:=
 q (q (h 3 .box (c1 (x 0))) (s [(4,i 0)])) (q (.cond (p (b .eql (x 1) (i 0)) (.cst (.bool true)) (b .eql (x 2) (i 0))) (q (s [(4,i 0)]) .ret) .skip) (q (s [(4,
 ld (n2 (.iAddr 1) (ld (fa 2 (x 3))) (b .rem (b .add (ld (n2 (.iAddr 1) (ld (fa 3 (x 3))) (x 1))) (ld (n2 (.iAddr 1) (ld (fa 3 (x 3))) (x 2)))) (b .sub (ld (fa
 1 (x 3))) (i 1)))))]) .ret))
def cf184:CF:=⟨3,5,[(.var 4)],bd184,.plain⟩
def tr184:List Nat:=[0,1,2,3,6]
def bd185:Stm:=
 q (q (h 3 .box (c1 (x 0))) (s [(4,i 0)])) (q (.cond (b .eql (ld (fa 0 (x 3))) (i 2)) (q (s [(4,b .xor (x 1) (x 2))]) .ret) .skip) (q (s [(4,b .rem (b .add (x
 1) (x 2)) (ld (fa 1 (x 3))))]) .ret))
def cf185:CF:=⟨3,5,[(.var 4)],bd185,.plain⟩
def tr185:List Nat:=[0,1,2,3,6]
def bd186:Stm:=
 q (q (h 3 .box (c1 (x 0))) (s [(4,i 0)])) (q (.cond (b .eql (x 1) (i 0)) (q (s [(4,i 0)]) .ret) .skip) (q (s [(4,ld (n2 (.iAddr 1) (ld (fa 2 (x 3))) (b .rem
 (b .sub (b .add (b .sub (ld (n2 (.iAddr 1) (ld (fa 3 (x 3))) (x 1))) (ld (n2 (.iAddr 1) (ld (fa 3 (x 3))) (x 2)))) (ld (fa 1 (x 3)))) (i 1)) (b .sub (ld (fa 1
 (x 3))) (i 1)))))]) .ret))
def cf186:CF:=⟨3,5,[(.var 4)],bd186,.plain⟩
def tr186:List Nat:=[0,1,2,3,6]
def bd187:Stm:=
 q (q (h 2 .box (c1 (x 0))) (q (h 3 (.alloc [.int .i64 0,.int .i64 0]) .nil) (s [(5,.cst (.bool false)),(4,i 0)]))) (q (q (.hv [(7,n2 (.build [.int .i64 0,
 .int .i64 0] [(0,1),(1,1)]) (ld (fa 0 (x 2))) (i 0))] [] [] (some 6) (.alloc [.int .i64 0,.int .i64 0]) .nil) (.hv [] [] [] none (.st 2) (c2 (x 6) (x
 7)))) (q (.block 0 (.cond (b .eql (ld (fa 1 (x 2))) (i 1)) (q (.cond (b .geq (x 1) (i 29)) (q (q (.hv [] [] [] none (.st 2) (c2 (x 3) (n1 (.ld 2 true) (x
 2)))) (s [(5,.cst (.bool false)),(4,i (-1))])) .ret) .skip) (q (q (.hv [(8,n1 (.cvt .i64) (n2 .idxS (.cst (.string ⟨ #[59,60,62,64,91,92,93,95,96,
 126,33,13,9,44,58,10,45,46,36,47,34,124,42,40,41,63,123,125,39] ⟩)) (x 1)))] [] [] none (.st 2) (c2 (x 3) (n1 (.ld 2 true) (x 6)))) (s [(5,
 .cst (.bool true)),(4,x 8)])) .ret)) (.cond (b .eql (ld (fa 1 (x 2))) (i 2)) (q (.cond (b .gtr (x 1) (i 26)) (q (q (.hv [] [] [] none (.st 2) (c2 (x 3) (n1
 (.ld 2 true) (x 2)))) (s [(5,.cst (.bool false)),(4,i (-1))])) .ret) .skip) (q (q (.hv [(9,n1 (.ld 2 true) (x 6))] [] [] (some 10) (.callK 1) (c (x 6) (c3
 (.cst (.func (.func 205) #[] #[])) (i 65) (x 1)))) (q (.hv [] [] [] none (.st 2) (c2 (x 3) (x 9))) (s [(5,.cst (.bool true)),(4,x 10)]))) .ret)) (.cond (p
 (b .eql (ld (fa 0 (x 2))) (i 0)) (b .leq (x 1) (i 26)) (.cst (.bool false))) (q (q (.hv [(11,n1 (.ld 2 true) (x 6))] [] [] (some 12) (.callK 1) (c (x 6) (c3
 (.cst (.func (.func 205) #[] #[])) (i 65) (x 1)))) (q (.hv [] [] [] none (.st 2) (c2 (x 3) (x 11))) (s [(5,.cst (.bool true)),(4,x 12)]))) .ret) (.cond (p
 (b .eql (ld (fa 0 (x 2))) (i 1)) (b .leq (x 1) (i 26)) (.cst (.bool false))) (q (q (.hv [(13,n1 (.ld 2 true) (x 6))] [] [] (some 14) (.callK 1) (c (x 6) (c3
 (.cst (.func (.func 205) #[] #[])) (i 97) (x 1)))) (q (.hv [] [] [] none (.st 2) (c2 (x 3) (x 13))) (s [(5,.cst (.bool true)),(4,x 14)]))) .ret) (.cond (p
 (b .eql (ld (fa 0 (x 2))) (i 2)) (b .lss (x 1) (i 25)) (.cst (.bool false))) (q (q (.hv [(15,n1 (.cvt .i64) (n2 .idxS (.cst (.string ⟨ #[48,49,50,51,52,
 53,54,55,56,57,38,13,9,44,58,35,45,46,36,47,43,37,42,61,94] ⟩)) (x 1)))] [] [] none (.st 2) (c2 (x 3) (n1 (.ld 2 true) (x 6)))) (s [(5,
 .cst (.bool true)),(4,x 15)])) .ret) (.cond (p (b .eql (ld (fa 0 (x 2))) (i 2)) (b .eql (x 1) (i 26)) (.cst (.bool false))) (q (q (.hv [] [] [] none (.st 2)
 (c2 (x 3) (n1 (.ld 2 true) (x 6)))) (s [(5,.cst (.bool true)),(4,i 32)])) .ret) (.cond (p (b .eql (ld (fa 0 (x 2))) (i 3)) (b .lss (x 1) (i 29)) (.cst
 (.bool false))) (q (q (.hv [(16,n1 (.cvt .i64) (n2 .idxS (.cst (.string ⟨ #[59,60,62,64,91,92,93,95,96,126,33,13,9,44,58,10,45,46,36,47,
 34,124,42,40,41,63,123,125,39] ⟩)) (x 1)))] [] [] none (.st 2) (c2 (x 3) (n1 (.ld 2 true) (x 6)))) (s [(5,.cst (.bool true)),(4,x 16)])) .ret)
 .skip)))))))) (q (q (cl 17 206 (c2 (n1 (.ld 2 true) (x 2)) (x 1))) (q (.hv [] [] [] none (.st 2) (c2 (x 3) (x 17))) (s [(5,.cst (.bool true)),(4,i
 (-1))]))) .ret)))
def cf187:CF:=⟨2,18,[(.node (.ld 2 true) (.cons (.var 3) .nil)),(.var 4),(.var 5)],bd187,.plain⟩
def tr187:List Nat:=[0,1,2,4,5,6,7,10,21,29,31,40,42,51,53,65,86,89]
def bd188:Stm:=
 q (.block 0 (.loop (q (.cond (b .gtr (x 2) (i 0)) .skip (.exit 0)) (q (.block 1 (q (s [(3,i 0)]) (q (q (s [(9,i 0),(8,n1 .len (n2 (.sl 1 false true false)
 (x 1) (i 5))),(7,n2 (.sl 1 false true false) (x 1) (i 5))]) (.block 2 (.loop (q (.cond (b .lss (x 9) (x 8)) .skip (.exit 2)) (q (.block 3 (q (s [(4,ld (n2
 (.iAddr 1) (x 7) (x 9)))]) (s [(3,b .add (b .mul (x 3) (i 900)) (x 4))]))) (s [(9,b .add (x 9) (i 1))])))))) (q (.cond (b .geq (x 3) (i 281474976710656))
 (.hv [] [] [] none .pan (c1 (n1 (.mkI 169) (n1 (.build [.int .i64 0] [(0,1)]) (i 22))))) .skip) (q (q (s [(5,i 40)]) (.block 4 (.loop (q (.cond (b .geq (x
 5) (i 0)) .skip (.exit 4)) (q (.block 5 (q (.hv [(11,ld (fa 4 (n1 .nilChk (x 0)))),(10,x 0)] [] [] (some 12) (.bSl [.int .u8 0] 1 [0]) (c1 (n1 (.cvt .u8)
 (b .shr (x 3) (x 5))))) (q (h 13 (.app 1 [.int .u8 0]) (c2 (x 11) (x 12))) (.hv [] [] [] none (.st 1) (c2 (fa 4 (n1 .nilChk (x 10))) (x 13)))))) (s [(5,b
 .sub (x 5) (i 8))])))))) (s [(1,n2 (.sl 1 true false false) (x 1) (i 5))])))))) (s [(2,b .sub (x 2) (i 1))]))))) (q (s [(16,i 0),(15,n1 .len (x 1)),(14,
 x 1)]) (.block 6 (.loop (q (.cond (b .lss (x 16) (x 15)) .skip (.exit 6)) (q (.block 7 (q (s [(6,ld (n2 (.iAddr 1) (x 14) (x 16)))]) (q (.cond (b .gtr (x 6)
 (i 255)) (.hv [] [] [] none .pan (c1 (n1 (.mkI 169) (n1 (.build [.int .i64 0] [(0,1)]) (i 22))))) .skip) (q (.hv [(18,ld (fa 4 (n1 .nilChk (x 0)))),(17,x
 0)] [] [] (some 19) (.bSl [.int .u8 0] 1 [0]) (c1 (n1 (.cvt .u8) (x 6)))) (q (h 20 (.app 1 [.int .u8 0]) (c2 (x 18) (x 19))) (.hv [] [] [] none (.st 1) (c2
 (fa 4 (n1 .nilChk (x 17))) (x 20)))))))) (s [(16,b .add (x 16) (i 1))]))))))
def cf188:CF:=⟨3,21,[],bd188,.plain⟩
def tr188:List Nat:=[0,1,2,6,8,9,11,17,18,19,36,40,45,46,51,52,53,61,65,68,69]
def bd189:Stm:=
 q (s [(2,.cst (.bool false)),(1,.cst (.string ⟨ #[] ⟩))]) (q (s [(3,.cst (.slice none 0 0))]) (q (q (s [(4,i 0)]) (.block 0 (.loop (q (.cond (b .lss (x 4)
 (n1 .len (x 0))) .skip (.exit 0)) (q (.block 1 (q (s [(5,n2 (.minmax false) (b .add (x 4) (i 15)) (n1 .len (x 0)))]) (q (.cond (b .eql (ld (n2 (.iAddr 1) (x
 0) (x 4))) (i 0)) (q (s [(2,.cst (.bool false)),(1,.cst (.string ⟨ #[] ⟩))]) .ret) .skip) (q (q (cl 8 207 (c2 (.node (.sl 1 true true false) (c3 (x 0) (x
 4) (x 5))) (i 900))) (q (.hv [(10,ix 1 (x 8)),(9,ix 0 (x 8))] [] [] (some 6) (.alloc [.bool false,.slice none 0 0]) .nil) (q (.hv [] [] [] none (.st 2)
 (c2 (x 6) (x 9))) (.sets [] [x 10])))) (q (q (cl 11 208 (c1 (n1 (.ld 2 true) (x 6)))) (s [(7,x 11)])) (q (.cond (p (p (b .lss (n1 .lenS (x 7)) (i 2)) (.cst
 (.bool true)) (b .gtr (n1 .lenS (x 7)) (i 45))) (.cst (.bool true)) (b .neq (n2 .idxS (x 7) (i 0)) (.cst (.int .u8 49)))) (q (s [(2,.cst (.bool false)),(1,
 .cst (.string ⟨ #[] ⟩))]) .ret) .skip) (q (.cond (p (b .lss (x 5) (n1 .len (x 0))) (b .neq (n1 .lenS (x 7)) (i 45)) (.cst (.bool false))) (q (s [(2,.cst
 (.bool false)),(1,.cst (.string ⟨ #[] ⟩))]) .ret) .skip) (q (h 12 (.appS [.int .u8 0]) (c2 (x 3) (n2 (.slS true false) (x 7) (i 1)))) (s [(3,x
 12)]))))))))) (s [(4,b .add (x 4) (i 15))])))))) (q (s [(2,.cst (.bool true)),(1,n1 .b2s (x 3))]) .ret)))
def cf189:CF:=⟨1,13,[(.var 1),(.var 2)],bd189,.plain⟩
def tr189:List Nat:=[0,2,3,4,5,6,7,9,31,32,33,35,61]
def bd195:Stm:=
 q (q (h 4 .box (c1 (x 1))) (q (h 5 (.alloc [.int .i64 0,.int .i64 0]) .nil) (s [(7,.cst (.bool false)),(6,i 0)]))) (q (q (cl 11 187 (c2 (n1 (.ld 2 true) (x
 4)) (x 2))) (q (.hv [(14,ix 2 (x 11)),(13,ix 1 (x 11)),(12,ix 0 (x 11))] [] [] (some 8) (.alloc [.int .i64 0,.int .i64 0]) .nil) (q (.hv [] [] [] none
 (.st 2) (c2 (x 8) (x 12))) (s [(10,x 14),(9,x 13)])))) (q (.cond (n1 (.un .not) (x 10)) (q (q (.hv [] [] [] none (.st 2) (c2 (x 5) (n1 (.ld 2 true) (x
 4)))) (s [(7,.cst (.bool false)),(6,i 0)])) .ret) .skip) (q (.cond (b .lss (x 9) (i 0)) (q (q (.hv [] [] [] none (.st 2) (c2 (x 5) (n1 (.ld 2 true) (x
 8)))) (s [(7,.cst (.bool true)),(6,i 0)])) .ret) .skip) (q (.cond (p (b .geq (x 3) (n1 .len (ld (fa 0 (n1 .nilChk (x 0)))))) (.cst (.bool true)) (b .neq
 (n1 (.cvt .i64) (ld (n2 (.iAddr 1) (ld (fa 0 (n1 .nilChk (x 0)))) (x 3)))) (x 9))) (q (q (.hv [] [] [] none (.st 2) (c2 (x 5) (n1 (.ld 2 true) (x 4)))) (s
 [(7,.cst (.bool false)),(6,i 0)])) .ret) .skip) (q (q (.hv [] [] [] none (.st 2) (c2 (x 5) (n1 (.ld 2 true) (x 8)))) (s [(7,.cst (.bool true)),(6,i
 1)])) .ret)))))
def cf195:CF:=⟨4,15,[(.node (.ld 2 true) (.cons (.var 5) .nil)),(.var 6),(.var 7)],bd195,.plain⟩
def tr195:List Nat:=[0,1,2,3,5,8,9,10,11,12,13,17,18,19,20]
def bd196:Stm:=
 q (h 1 (.alloc [.int .i64 0,.int .i64 0]) .nil) (q (.hv [] [] [] none (.st 2) (c2 (x 1) (n2 (.build [.int .i64 0,.int .i64 0] [(0,1),(1,1)]) (b .quo (x 0)
 (i 3)) (b .rem (x 0) (i 3))))) .ret)
def cf196:CF:=⟨1,2,[(.node (.ld 2 true) (.cons (.var 1) .nil))],bd196,.plain⟩
def tr196:List Nat:=[0,2]
def bd197:Stm:=
 q (q (h 1 .box (c1 (x 0))) (s [(2,i 0)])) (q (s [(2,b .add (b .mul (i 3) (ld (fa 0 (x 1)))) (ld (fa 1 (x 1))))]) .ret)
def cf197:CF:=⟨1,3,[(.var 2)],bd197,.plain⟩
def tr197:List Nat:=[0,1,2]
def bd198:Stm:=
 q (s [(3,.cst (.slice none 0 0))]) (q (q (.hv [(7,n2 (.build [.int .i64 0,.int .i64 0] [(0,1),(1,1)]) (x 1) (x 2))] [] [] (some 4) (.alloc [.int .i64 0,
 .int .i64 0]) .nil) (.hv [] [] [] none (.st 2) (c2 (x 4) (x 7)))) (q (s [(6,ix 1 (n2 (.mget [1,1] true (.slice none 0 0) true) (ld (fa 7 (n1 .nilChk (x
 0)))) (n1 (.ld 2 true) (x 4)))),(5,ix 0 (n2 (.mget [1,1] true (.slice none 0 0) true) (ld (fa 7 (n1 .nilChk (x 0)))) (n1 (.ld 2 true) (x 4))))]) (q (.cond
 (n1 (.un .not) (x 6)) (q (q (cl 8 209 (c1 (n1 .b2s (.node (.sl 1 true true false) (c3 (ld (fa 0 (n1 .nilChk (x 0)))) (x 1) (b .add (x 1) (x 2))))))) (s [(5,x
 8)])) (.hv [] [] [] none (.mset [1,1] true) (c3 (ld (fa 7 (n1 .nilChk (x 0)))) (n1 (.ld 2 true) (x 4)) (x 5)))) .skip) (q (s [(3,x 5)]) .ret))))
def cf198:CF:=⟨3,9,[(.var 3)],bd198,.plain⟩
def tr198:List Nat:=[0,1,2,6,7,8,9,12,34]
def bd199:Stm:=
 q (h 3 (.alloc [.int .i64 0,.int .i64 0,.int .i64 0,.int .i64 0]) .nil) (q (.block 0 (.cond (b .lss (x 2) (b .add (b .quo (x 1) (i 3)) (i 1))) (q (.hv [] []
 [] none (.st 4) (c2 (x 3) (.node (.build [.int .i64 0,.int .i64 0,.int .i64 0,.int .i64 0] [(0,1),(1,1),(2,1),(3,1)]) (c (i 5) (c3 (x 0) (x 1) (x
 2)))))) .ret) (.cond (b .eql (x 1) (i 44)) (q (.hv [] [] [] none (.st 4) (c2 (x 3) (n2 (.build [.int .i64 0,.int .i64 0,.int .i64 0,.int .i64 0] [(0,1),
 (1,1)]) (i 5) (b .add (x 0) (x 1))))) .ret) .skip))) (q (.hv [] [] [] none (.st 4) (c2 (x 3) (n2 (.build [.int .i64 0,.int .i64 0,.int .i64 0,.int .i64 0]
 [(0,1),(1,1)]) (i 6) (b .add (x 0) (x 1))))) .ret))
def cf199:CF:=⟨3,4,[(.node (.ld 4 true) (.cons (.var 3) .nil))],bd199,.plain⟩
def tr199:List Nat:=[0,1,2,6]
def bd200:Stm:=
 q (q (s [(1,i 0)]) (.cond (.cst (.bool false)) (q (q (cl 2 210 (c1 (n1 (.cvt .u32) (x 0)))) (s [(1,x 2)])) .ret) .skip)) (q (q (cl 3 211 (c1 (x 0))) (s [(1,x
 3)])) .ret)
def cf200:CF:=⟨1,4,[(.var 1)],bd200,.plain⟩
def tr200:List Nat:=[0,2,5,7]
def bd201:Stm:=
 q (s [(2,i 0)]) (q (.block 0 (.loop (q (q (cl 3 159 (c1 (x 0))) (q (cl 4 159 (c1 (x 1))) (.cond (b .geq (x 3) (x 4)) .skip (.exit 0)))) (.block 1 (q (.hv [(6,
 x 1),(5,x 0)] [] [] (some 7) (.call false) (c2 (.cst (.func (.func 159) #[] #[])) (x 0))) (q (cl 8 159 (c1 (x 1))) (s [(0,b .xor (x 5) (b .shl (x 6) (b
 .sub (x 7) (x 8))))]))))))) (q (s [(2,x 0)]) .ret))
def cf201:CF:=⟨2,9,[(.var 2)],bd201,.plain⟩
def tr201:List Nat:=[0,1,4,6,8,10,11,13,15]
def bd203:Stm:=
 q (q (h 2 .box (c1 (x 0))) (s [(3,i 0)])) (q (s [(4,i 1)]) (q (q (s [(5,x 1)]) (.block 0 (.loop (q (.cond (b .neq (x 5) (i 1)) .skip (.exit 0)) (q (.block 1
 (s [(4,b .add (x 4) (i 1))])) (q (cl 6 176 (c3 (n1 (.ld 3 true) (x 2)) (x 5) (x 1))) (s [(5,x 6)]))))))) (q (s [(3,x 4)]) .ret)))
def cf203:CF:=⟨2,7,[(.var 3)],bd203,.plain⟩
def tr203:List Nat:=[0,1,2,4,5,6,13]
def bd204:Stm:=
 q (q (h 3 .box (c1 (x 0))) (s [(4,i 0)])) (q (.cond (b .eql (ld (fa 0 (x 3))) (i 2)) (q (s [(4,b .xor (x 1) (x 2))]) .ret) .skip) (q (s [(4,b .rem (b .add (b
 .sub (x 1) (x 2)) (ld (fa 1 (x 3)))) (ld (fa 1 (x 3))))]) .ret))
def cf204:CF:=⟨3,5,[(.var 4)],bd204,.plain⟩
def tr204:List Nat:=[0,1,2,3,6]
def bd205:Stm:=
 q (s [(2,i 0)]) (q (.cond (b .eql (x 1) (i 26)) (q (s [(2,i 32)]) .ret) .skip) (q (s [(2,b .add (x 0) (x 1))]) .ret))
def cf205:CF:=⟨2,3,[(.var 2)],bd205,.plain⟩
def tr205:List Nat:=[0,1,4]
def bd206:Stm:=
 q (q (h 2 .box (c1 (x 0))) (h 3 (.alloc [.int .i64 0,.int .i64 0]) .nil)) (q (q (s [(4,ld (fa 0 (x 2)))]) (.block 0 (.cond (b .eql (x 4) (i 0)) (q (s [(5,x
 1)]) (.block 1 (.cond (b .eql (x 5) (i 27)) (q (.hv [] [] [] none (.st 2) (c2 (x 3) (n2 (.build [.int .i64 0,.int .i64 0] [(0,1),(1,1)]) (i 1) (i 0))))
 .ret) (.cond (b .eql (x 5) (i 28)) (q (.hv [] [] [] none (.st 2) (c2 (x 3) (n2 (.build [.int .i64 0,.int .i64 0] [(0,1),(1,1)]) (i 2) (i 0)))) .ret)
 .skip)))) (.cond (b .eql (x 4) (i 1)) (q (s [(6,x 1)]) (.block 2 (.cond (b .eql (x 6) (i 27)) (q (.hv [] [] [] none (.st 2) (c2 (x 3) (n2 (.build [.int .i64
 0,.int .i64 0] [(0,1),(1,1)]) (i 1) (i 2)))) .ret) (.cond (b .eql (x 6) (i 28)) (q (.hv [] [] [] none (.st 2) (c2 (x 3) (n2 (.build [.int .i64 0,.int
 .i64 0] [(0,1),(1,1)]) (i 2) (i 0)))) .ret) .skip)))) (.cond (b .eql (x 4) (i 2)) (q (s [(7,x 1)]) (.block 3 (.cond (b .eql (x 7) (i 25)) (q (.hv [] [] []
 none (.st 2) (c2 (x 3) (n2 (.build [.int .i64 0,.int .i64 0] [(0,1),(1,1)]) (i 3) (i 0)))) .ret) (.cond (b .eql (x 7) (i 27)) (q (.hv [] [] [] none (.st
 2) (c2 (x 3) (n2 (.build [.int .i64 0,.int .i64 0] [(0,1),(1,1)]) (i 1) (i 0)))) .ret) (.cond (b .eql (x 7) (i 28)) (q (.hv [] [] [] none (.st 2) (c2 (x
 3) (n2 (.build [.int .i64 0,.int .i64 0] [(0,1),(1,1)]) (i 0) (i 0)))) .ret) .skip))))) (q (.hv [] [] [] none (.st 2) (c2 (x 3) (n2 (.build [.int .i64 0,
 .int .i64 0] [(0,1),(1,1)]) (i 0) (i 0)))) .ret)))))) (q (.hv [] [] [] none (.st 2) (c2 (x 3) (n2 (.build [.int .i64 0,.int .i64 0] [(0,1),(1,1)]) (ld
 (fa 0 (x 2))) (i 1)))) .ret))
def cf206:CF:=⟨2,8,[(.node (.ld 2 true) (.cons (.var 3) .nil))],bd206,.plain⟩
def tr206:List Nat:=[0,1,2,4,6,10,19,28]
def bd207:Stm:=
 q (q (h 2 (.alloc [.bool false,.slice none 0 0]) .nil) (s [(3,i 0)])) (q (.cond (p (b .lss (x 1) (i 2)) (.cst (.bool true)) (b .gtr (x 1) (i 65536))) (q (q
 (.hv [] [] [] none (.st 2) (c2 (x 2) (.node (.build [.bool false,.slice none 0 0] []) .nil))) (s [(3,i 1)])) .ret) .skip) (q (.cond (b .gtr (n1 .len (x 0))
 (i 4096)) (q (q (.hv [] [] [] none (.st 2) (c2 (x 2) (.node (.build [.bool false,.slice none 0 0] []) .nil))) (s [(3,i 4)])) .ret) .skip) (q (q (s [(9,i
 0),(8,n1 .len (x 0)),(7,x 0)]) (.block 0 (.loop (q (.cond (b .lss (x 9) (x 8)) .skip (.exit 0)) (q (.block 1 (q (s [(4,ld (n2 (.iAddr 1) (x 7) (x 9)))])
 (.cond (p (b .lss (x 4) (i 0)) (.cst (.bool true)) (b .geq (x 4) (x 1))) (q (q (.hv [] [] [] none (.st 2) (c2 (x 2) (.node (.build [.bool false,.slice none 0
 0] []) .nil))) (s [(3,i 3)])) .ret) .skip))) (s [(9,b .add (x 9) (i 1))])))))) (q (s [(5,.cst (.slice none 0 0))]) (q (q (s [(12,i 0),(11,n1 .len (x
 0)),(10,x 0)]) (.block 2 (.loop (q (.cond (b .lss (x 12) (x 11)) .skip (.exit 2)) (q (.block 3 (q (s [(6,ld (n2 (.iAddr 1) (x 10) (x 12)))]) (q (q (cl 13
 212 (c3 (x 5) (n1 (.cvt .u32) (x 1)) (n1 (.cvt .u32) (x 6)))) (s [(5,x 13)])) (.cond (b .gtr (n1 .len (x 5)) (i 512)) (q (q (.hv [] [] [] none (.st 2) (c2 (x
 2) (.node (.build [.bool false,.slice none 0 0] []) .nil))) (s [(3,i 4)])) .ret) .skip)))) (s [(12,b .add (x 12) (i 1))])))))) (q (q (cl 14 213 (c2 (.cst
 (.bool false)) (x 5))) (q (.hv [] [] [] none (.st 2) (c2 (x 2) (x 14))) (s [(3,i 0)]))) .ret))))))
def cf207:CF:=⟨2,15,[(.node (.ld 2 true) (.cons (.var 2) .nil)),(.var 3)],bd207,.plain⟩
def tr207:List Nat:=[0,1,4,5,7,8,10,22,23,24,37,38,39,48,55]
def bd208:Stm:=
 q (q (h 1 .box (c1 (x 0))) (s [(2,.cst (.string ⟨ #[] ⟩))])) (q (q (cl 9 214 (c1 (n1 (.ld 2 true) (x 1)))) (.cond (n1 (.un .not) (x 9)) (q (s [(2,.cst
 (.string ⟨ #[] ⟩))]) .ret) .skip)) (q (.cond (b .eql (n1 .len (ld (fa 1 (x 1)))) (i 0)) (q (s [(2,.cst (.string ⟨ #[48] ⟩))]) .ret) .skip) (q (s [(3,.cst
 (.slice none 0 0))]) (q (q (s [(4,ld (fa 1 (x 1)))]) (.block 0 (.loop (q (.cond (b .gtr (n1 .len (x 4)) (i 0)) .skip (.exit 0)) (.block 1 (q (s [(5,.cst
 (.int .u32 0))]) (q (q (cl 10 215 (c2 (x 4) (.cst (.int .u32 1000000000)))) (s [(5,ix 1 (x 10)),(4,ix 0 (x 10))])) (q (.hv [(11,x 3)] [] [] (some 12)
 (.bSl [.int .u32 0] 1 [0]) (c1 (x 5))) (q (h 13 (.app 1 [.int .u32 0]) (c2 (x 11) (x 12))) (s [(3,x 13)])))))))))) (q (h 6 (.alloc [.pointer none,.slice
 none 0 0]) .nil) (q (.cond (ld (fa 0 (x 1))) (.hv [] [] [] none (.call false) (c3 (.cst (.func (.func 216) #[] #[])) (x 6) (.cst (.int .u8 45)))) .skip) (q (q
 (s [(7,b .sub (n1 .len (x 3)) (i 1))]) (.block 2 (.loop (q (.cond (b .geq (x 7) (i 0)) .skip (.exit 2)) (q (.block 3 (q (q (cl 14 217 (c1 (n1 (.cvt .i64) (ld
 (n2 (.iAddr 1) (x 3) (x 7)))))) (s [(8,x 14)])) (q (.cond (b .lss (x 7) (b .sub (n1 .len (x 3)) (i 1))) (q (cl 15 219 (c2 (.cst (.string ⟨ #[48] ⟩)) (b .sub
 (i 9) (n1 .lenS (x 8))))) (.hv [] [] [] none (.call false) (c3 (.cst (.func (.func 218) #[] #[])) (x 6) (x 15)))) .skip) (.hv [] [] [] none (.call false) (c3
 (.cst (.func (.func 218) #[] #[])) (x 6) (x 8)))))) (s [(7,b .sub (x 7) (i 1))])))))) (q (q (cl 16 220 (c1 (x 6))) (s [(2,x 16)])) .ret))))))))
def cf208:CF:=⟨1,17,[(.var 2)],bd208,.plain⟩
def tr208:List Nat:=[0,1,2,3,4,5,6,7,8,10,23,26,28,29,45,54,58]
def bd209:Stm:=
 q (s [(1,.cst (.slice none 0 0))]) (q (q (cl 4 221 (c1 (b .add (.cst (.string ⟨ #[49] ⟩)) (x 0)))) (q (.hv [(6,ix 1 (x 4)),(5,ix 0 (x 4))] [] [] (some 2)
 (.alloc [.bool false,.slice none 0 0]) .nil) (q (.hv [] [] [] none (.st 2) (c2 (x 2) (x 5))) (.sets [] [x 6])))) (q (q (cl 7 222 (c2 (n1 (.ld 2 true) (x 2))
 (i 900))) (.sets [(3,ix 0 (x 7))] [ix 1 (x 7)])) (q (s [(1,x 3)]) .ret)))
def cf209:CF:=⟨1,8,[(.var 1)],bd209,.plain⟩
def tr209:List Nat:=[0,2,3,5,10,11,12,15]
def bd210:Stm:=
 q (s [(1,i 0)]) (q (.cond (b .geq (x 0) (.cst (.int .u32 65536))) (q (s [(0,b .shr (x 0) (.cst (.int .u64 16)))]) (s [(1,i 16)])) .skip) (q (.cond (b .geq (x
 0) (.cst (.int .u32 256))) (q (s [(0,b .shr (x 0) (.cst (.int .u64 8)))]) (s [(1,b .add (x 1) (i 8))])) .skip) (q (s [(1,b .add (x 1) (n1 (.cvt .i64) (n2
 .idxS (.cst (.string lit0)) (n1 (.cvt .u8) (x 0)))))]) .ret)))
def cf210:CF:=⟨1,2,[(.var 1)],bd210,.plain⟩
def tr210:List Nat:=[0,2]
def bd211:Stm:=
 q (s [(1,i 0)]) (q (.cond (b .geq (x 0) (.cst (.int .u64 4294967296))) (q (s [(0,b .shr (x 0) (.cst (.int .u64 32)))]) (s [(1,i 32)])) .skip) (q (.cond (b
 .geq (x 0) (.cst (.int .u64 65536))) (q (s [(0,b .shr (x 0) (.cst (.int .u64 16)))]) (s [(1,b .add (x 1) (i 16))])) .skip) (q (.cond (b .geq (x 0) (.cst
 (.int .u64 256))) (q (s [(0,b .shr (x 0) (.cst (.int .u64 8)))]) (s [(1,b .add (x 1) (i 8))])) .skip) (q (s [(1,b .add (x 1) (n1 (.cvt .i64) (n2 .idxS
 (.cst (.string lit0)) (n1 (.cvt .u8) (x 0)))))]) .ret))))
def cf211:CF:=⟨1,2,[(.var 1)],bd211,.plain⟩
def tr211:List Nat:=[0,2]
def bd212:Stm:=
 q (s [(3,.cst (.slice none 0 0))]) (q (q (h 9 (.mkSl [.int .u32 0]) (c2 (b .add (n1 .len (x 0)) (i 1)) (b .add (n1 .len (x 0)) (i 1)))) (s [(4,x 9)])) (q (s
 [(5,x 2)]) (q (q (s [(12,i 0),(11,n1 .len (x 0)),(10,x 0)]) (.block 0 (.loop (q (.cond (b .lss (x 12) (x 11)) .skip (.exit 0)) (q (.block 1 (q (s [(7,
 ld (n2 (.iAddr 1) (x 10) (x 12))),(6,x 12)]) (q (q (cl 13 223 (c1 (b .add (b .mul (n1 (.cvt .u64) (x 7)) (n1 (.cvt .u64) (x 1))) (n1 (.cvt .u64) (x 5)))))
 (q (h 8 (.alloc [.int .u32 0,.int .u32 0]) .nil) (.hv [] [] [] none (.st 2) (c2 (x 8) (x 13))))) (q (.hv [(16,n2 (.iAddr 1) (x 4) (x 6)),(15,ld (n2
 (.iAddrA 2 1) (x 8) (i 1))),(14,n2 (.iAddrA 2 1) (x 8) (i 1))] [] [] none (.st 1) (c2 (n2 (.iAddr 1) (x 4) (x 6)) (ld (n2 (.iAddrA 2 1) (x 8) (i 0))))) (q
 (s [(5,x 15)]) (.dist (x 16) (x 14))))))) (s [(12,b .add (x 12) (i 1))])))))) (q (.hv [] [] [] none (.st 1) (c2 (n2 (.iAddr 1) (x 4) (n1 .len (x 0))) (x
 5))) (q (q (cl 17 224 (c1 (x 4))) (s [(3,x 17)])) .ret)))))
def cf212:CF:=⟨3,18,[(.var 3)],bd212,.plain⟩
def tr212:List Nat:=[0,1,2,6,7,8,9,10,11,15,17,18,19,32,37,38,39,47]
def bd213:Stm:=
 q (h 2 (.alloc [.bool false,.slice none 0 0]) .nil) (q (.cond (b .eql (n1 .len (x 1)) (i 0)) (q (.hv [] [] [] none (.st 2) (c2 (x 2) (.node (.build [.bool
 false,.slice none 0 0] []) .nil))) .ret) .skip) (q (.hv [] [] [] none (.st 2) (c2 (x 2) (n2 (.build [.bool false,.slice none 0 0] [(0,1),(1,1)]) (x 0) (x
 1)))) .ret))
def cf213:CF:=⟨2,3,[(.node (.ld 2 true) (.cons (.var 2) .nil))],bd213,.plain⟩
def tr213:List Nat:=[0,1,4]
def bd214:Stm:=
 q (q (h 1 .box (c1 (x 0))) (s [(2,.cst (.bool false))])) (q (s [(3,n1 .len (ld (fa 1 (x 1))))]) (q (.cond (b .eql (x 3) (i 0)) (q (s [(2,n1 (.un .not) (ld
 (fa 0 (x 1))))]) .ret) .skip) (q (s [(2,p (b .leq (x 3) (i 512)) (b .neq (ld (n2 (.iAddr 1) (ld (fa 1 (x 1))) (b .sub (x 3) (i 1)))) (.cst (.int .u32 0)))
 (.cst (.bool false)))]) .ret)))
def cf214:CF:=⟨1,4,[(.var 2)],bd214,.plain⟩
def tr214:List Nat:=[0,1,2,3]
def bd215:Stm:=
 q (s [(3,.cst (.int .u32 0)),(2,.cst (.slice none 0 0))]) (q (q (h 6 (.mkSl [.int .u32 0]) (c2 (n1 .len (x 0)) (n1 .len (x 0)))) (s [(2,x 6)])) (q (q (s
 [(4,b .sub (n1 .len (x 0)) (i 1))]) (.block 0 (.loop (q (.cond (b .geq (x 4) (i 0)) .skip (.exit 0)) (q (.block 1 (q (s [(5,b .or (b .shl (n1 (.cvt .u64) (x
 3)) (.cst (.int .u64 32))) (n1 (.cvt .u64) (ld (n2 (.iAddr 1) (x 0) (x 4)))))]) (q (.hv [(7,n1 (.cvt .u32) (b .rem (x 5) (n1 (.cvt .u64) (x 1))))] [] [] none
 (.st 1) (c2 (n2 (.iAddr 1) (x 2) (x 4)) (n1 (.cvt .u32) (b .quo (x 5) (n1 (.cvt .u64) (x 1)))))) (s [(3,x 7)])))) (s [(4,b .sub (x 4) (i 1))])))))) (q (q
 (cl 8 224 (c1 (x 2))) (s [(3,x 3),(2,x 8)])) .ret)))
def cf215:CF:=⟨2,9,[(.var 2),(.var 3)],bd215,.plain⟩
def tr215:List Nat:=[0,1,4,5,6,7,10,38,41]
def bd216:Stm:=
 q (s [(2,.cst .nilIface)]) (q (.hv [] [] [] none (.call false) (c2 (.cst (.func (.func 225) #[] #[])) (x 0))) (q (q (.hv [(4,ld (fa 1 (n1 .nilChk (x 0)))),
 (3,x 0)] [] [] (some 5) (.bSl [.int .u8 0] 1 [0]) (c1 (x 1))) (q (h 6 (.app 1 [.int .u8 0]) (c2 (x 4) (x 5))) (.hv [] [] [] none (.st 1) (c2 (fa 1 (n1
 .nilChk (x 3))) (x 6))))) (q (s [(2,.cst .nilIface)]) .ret)))
def cf216:CF:=⟨2,7,[(.var 2)],bd216,.plain⟩
def tr216:List Nat:=[0,1,4,7,11,13,14]
def bd217:Stm:=
 q (s [(1,.cst (.string ⟨ #[] ⟩))]) (q (q (cl 2 226 (c1 (x 0))) (s [(1,x 2)])) .ret)
def cf217:CF:=⟨1,3,[(.var 1)],bd217,.plain⟩
def tr217:List Nat:=[0,2,4]
def bd218:Stm:=
 q (s [(3,.cst .nilIface),(2,i 0)]) (q (.hv [] [] [] none (.call false) (c2 (.cst (.func (.func 225) #[] #[])) (x 0))) (q (q (.hv [(4,x 0)] [] [] (some 5)
 (.appS [.int .u8 0]) (c2 (ld (fa 1 (n1 .nilChk (x 0)))) (x 1))) (.hv [] [] [] none (.st 1) (c2 (fa 1 (n1 .nilChk (x 4))) (x 5)))) (q (s [(3,.cst .nilIface),
 (2,n1 .lenS (x 1))]) .ret)))
def cf218:CF:=⟨2,6,[(.var 2),(.var 3)],bd218,.plain⟩
def tr218:List Nat:=[0,1,4,5,8,14]
def bd219:Stm:=
 q (s [(2,.cst (.string ⟨ #[] ⟩))]) (q (q (s [(9,x 1)]) (.block 0 (.cond (b .eql (x 9) (i 0)) (q (s [(2,.cst (.string ⟨ #[] ⟩))]) .ret) (.cond (b .eql (x 9)
 (i 1)) (q (s [(2,x 0)]) .ret) .skip)))) (q (.cond (b .lss (x 1) (i 0)) (.hv [] [] [] none .pan (c1 (n1 (.mkI 9) (.cst (.string ⟨ #[115,116,114,105,110,
 103,115,58,32,110,101,103,97,116,105,118,101,32,82,101,112,101,97,116,32,99,111,117,110,116] ⟩))))) .skip) (q (q (cl 10 120 (c2 (n1
 (.cvt .u64) (n1 .lenS (x 0))) (n1 (.cvt .u64) (x 1)))) (s [(4,ix 1 (x 10)),(3,ix 0 (x 10))])) (q (.cond (p (b .gtr (x 3) (.cst (.int .u64 0))) (.cst (.bool
 true)) (b .gtr (x 4) (.cst (.int .u64 9223372036854775807)))) (.hv [] [] [] none .pan (c1 (n1 (.mkI 9) (.cst (.string lit2))))) .skip) (q (s [(5,n1 (.cvt
 .i64) (x 4))]) (q (.cond (b .eql (n1 .lenS (x 0)) (i 0)) (q (s [(2,.cst (.string ⟨ #[] ⟩))]) .ret) .skip) (q (q (s [(11,n2 .idxS (x 0) (i 0))]) (.block 1 (q
 (q (s [(12,b .eql (x 11) (.cst (.int .u8 32)))]) (.cond (x 12) .skip (q (s [(12,b .eql (x 11) (.cst (.int .u8 45)))]) (.cond (x 12) .skip (q (s [(12,b .eql
 (x 11) (.cst (.int .u8 48)))]) (.cond (x 12) .skip (q (s [(12,b .eql (x 11) (.cst (.int .u8 61)))]) (.cond (x 12) .skip (s [(12,b .eql (x 11) (.cst (.int
 .u8 9)))]))))))))) (.cond (x 12) (.block 2 (q (.hv [(13,b .leq (x 5) (i 128))] [] [(b .leq (x 5) (i 128),true)] (some 14) (.call false) (c3 (.cst (.func
 (.func 227) #[] #[])) (.cst (.string lit3)) (x 0))) (.cond (p (x 13) (x 14) (.cst (.bool false))) (q (s [(2,n2 (.slS false true) (.cst (.string lit3)) (x
 5))]) .ret) (q (.hv [(15,b .leq (x 5) (i 128))] [] [(b .leq (x 5) (i 128),true)] (some 16) (.call false) (c3 (.cst (.func (.func 227) #[] #[])) (.cst
 (.string lit4)) (x 0))) (.cond (p (x 15) (x 16) (.cst (.bool false))) (q (s [(2,n2 (.slS false true) (.cst (.string lit4)) (x 5))]) .ret) (q (.hv [(17,b
 .leq (x 5) (i 64))] [] [(b .leq (x 5) (i 64),true)] (some 18) (.call false) (c3 (.cst (.func (.func 227) #[] #[])) (.cst (.string lit5)) (x 0))) (.cond (p (x
 17) (x 18) (.cst (.bool false))) (q (s [(2,n2 (.slS false true) (.cst (.string lit5)) (x 5))]) .ret) (q (.hv [(19,b .leq (x 5) (i 128))] [] [(b .leq (x 5)
 (i 128),true)] (some 20) (.call false) (c3 (.cst (.func (.func 227) #[] #[])) (.cst (.string lit6)) (x 0))) (.cond (p (x 19) (x 20) (.cst (.bool false))) (q
 (s [(2,n2 (.slS false true) (.cst (.string lit6)) (x 5))]) .ret) (q (.hv [(21,b .leq (x 5) (i 64))] [] [(b .leq (x 5) (i 64),true)] (some 22) (.call false)
 (c3 (.cst (.func (.func 227) #[] #[])) (.cst (.string lit7)) (x 0))) (.cond (p (x 21) (x 22) (.cst (.bool false))) (q (s [(2,n2 (.slS false true) (.cst
 (.string lit7)) (x 5))]) .ret) .skip))))))))))) .skip)))) (q (s [(6,x 5)]) (q (.cond (b .gtr (x 5) (i 8192)) (q (s [(6,b .mul (b .quo (i 8192) (n1 .lenS (x
 0))) (n1 .lenS (x 0)))]) (.cond (b .eql (x 6) (i 0)) (s [(6,n1 .lenS (x 0))]) .skip)) .skip) (q (h 7 (.alloc [.pointer none,.slice none 0 0]) .nil) (q (.hv
 [] [] [] none (.call false) (c3 (.cst (.func (.func 228) #[] #[])) (x 7) (x 5))) (q (.hv [] [] [] none (.call false) (c3 (.cst (.func (.func 218) #[] #[])) (x
 7) (x 0))) (q (.block 3 (.loop (q (q (cl 23 229 (c1 (x 7))) (.cond (b .lss (x 23) (x 5)) .skip (.exit 3))) (.block 4 (q (q (.hv [(24,x 5)] [] [] (some 25)
 (.call false) (c2 (.cst (.func (.func 229) #[] #[])) (x 7))) (q (.hv [(26,b .sub (x 24) (x 25))] [] [] (some 27) (.call false) (c2 (.cst (.func (.func 229)
 #[] #[])) (x 7))) (s [(8,.node (.minmax false) (c3 (x 26) (x 27) (x 6)))]))) (q (cl 28 220 (c1 (x 7))) (.hv [] [] [] none (.call false) (c3 (.cst (.func
 (.func 218) #[] #[])) (x 7) (n2 (.slS false true) (x 28) (x 8)))))))))) (q (q (cl 29 220 (c1 (x 7))) (s [(2,x 29)])) .ret))))))))))))))
def cf219:CF:=⟨2,30,[(.var 2)],bd219,.plain⟩
def tr219:List Nat:=[0,1,4,5,6,7,8,9,10,11,26,42,43,52,54,61,63,70,72,79,81,88,90,111,114,115,116,117,120,124]
def bd221:Stm:=
 q (q (h 1 (.alloc [.bool false,.slice none 0 0]) .nil) (s [(2,i 0)])) (q (q (cl 7 230 (c2 (x 0) (.cst (.string ⟨ #[45] ⟩)))) (s [(4,ix 1 (x 7)),(3,ix 0 (x
 7))])) (q (.cond (b .gtr (n1 .lenS (x 3)) (i 4096)) (q (q (.hv [] [] [] none (.st 2) (c2 (x 1) (.node (.build [.bool false,.slice none 0 0] []) .nil))) (s
 [(2,i 4)])) .ret) .skip) (q (.cond (p (b .eql (x 3) (.cst (.string ⟨ #[] ⟩))) (.cst (.bool true)) (p (b .eql (n2 .idxS (x 3) (i 0)) (.cst (.int .u8 48))) (p
 (x 4) (.cst (.bool true)) (b .gtr (n1 .lenS (x 3)) (i 1))) (.cst (.bool false)))) (q (q (.hv [] [] [] none (.st 2) (c2 (x 1) (.node (.build [.bool false,
 .slice none 0 0] []) .nil))) (s [(2,i 9)])) .ret) .skip) (q (s [(5,.cst (.slice none 0 0))]) (q (q (h 8 .sit (c1 (x 3))) (.block 0 (.loop (q (q (h 9 .snx
 (c1 (x 8))) (.cond (ix 0 (x 9)) .skip (.exit 0))) (.block 1 (q (s [(6,ix 2 (x 9))]) (q (.cond (p (b .lss (x 6) (.cst (.int .i32 48))) (.cst (.bool true)) (b
 .gtr (x 6) (.cst (.int .i32 57)))) (q (q (.hv [] [] [] none (.st 2) (c2 (x 1) (.node (.build [.bool false,.slice none 0 0] []) .nil))) (s [(2,i 9)])) .ret)
 .skip) (q (cl 10 212 (c3 (x 5) (.cst (.int .u32 10)) (n1 (.cvt .u32) (b .sub (x 6) (.cst (.int .i32 48)))))) (s [(5,x 10)]))))))))) (q (q (cl 11 213 (c2 (x
 4) (x 5))) (q (.hv [] [] [] none (.st 2) (c2 (x 1) (x 11))) (s [(2,i 0)]))) .ret))))))
def cf221:CF:=⟨1,12,[(.node (.ld 2 true) (.cons (.var 1) .nil)),(.var 2)],bd221,.plain⟩
def tr221:List Nat:=[0,2,3,4,5,6,8,11,35,36,50,53]
def bd222:Stm:=
 q (q (h 2 .box (c1 (x 0))) (s [(4,i 0),(3,.cst (.slice none 0 0))])) (q (q (cl 8 214 (c1 (n1 (.ld 2 true) (x 2)))) (.cond (p (p (p (n1 (.un .not) (x 8))
 (.cst (.bool true)) (ld (fa 0 (x 2)))) (.cst (.bool true)) (b .lss (x 1) (i 2))) (.cst (.bool true)) (b .gtr (x 1) (i 65536))) (q (s [(4,i 1),(3,.cst
 (.slice none 0 0))]) .ret) .skip)) (q (.cond (b .eql (n1 .len (ld (fa 1 (x 2)))) (i 0)) (q (q (h 9 (.bSl [.int .i64 0] 1 [0]) (c1 (i 0))) (s [(4,i 0),(3,x
 9)])) .ret) .skip) (q (s [(5,.cst (.slice none 0 0))]) (q (q (s [(6,ld (fa 1 (x 2)))]) (.block 0 (.loop (q (.cond (b .gtr (n1 .len (x 6)) (i 0)) .skip
 (.exit 0)) (.block 1 (q (.cond (b .eql (n1 .len (x 5)) (i 4096)) (q (s [(4,i 4),(3,.cst (.slice none 0 0))]) .ret) .skip) (q (s [(7,.cst (.int .u32 0))])
 (q (q (cl 10 215 (c2 (x 6) (n1 (.cvt .u32) (x 1)))) (s [(7,ix 1 (x 10)),(6,ix 0 (x 10))])) (q (.hv [(11,x 5)] [] [] (some 12) (.bSl [.int .i64 0] 1 [0])
 (c1 (n1 (.cvt .i64) (x 7)))) (q (h 13 (.app 1 [.int .i64 0]) (c2 (x 11) (x 12))) (s [(5,x 13)]))))))))))) (q (.hv [] [] [] none (.call false) (c2 (.cst
 (.func (.func 231) #[] #[])) (x 5))) (q (s [(4,i 0),(3,x 5)]) .ret))))))
def cf222:CF:=⟨2,14,[(.var 3),(.var 4)],bd222,.plain⟩
def tr222:List Nat:=[0,1,2,4,5,6,7,8,10,28,41,44,47,48]
def bd223:Stm:=
 q (h 1 (.alloc [.int .u32 0,.int .u32 0]) .nil) (q (.hv [] [] [] none (.st 2) (c2 (x 1) (n2 (.build [.int .u32 0,.int .u32 0] [(0,1),(1,1)]) (n1 (.cvt
 .u32) (x 0)) (n1 (.cvt .u32) (b .shr (x 0) (.cst (.int .u64 32))))))) .ret)
def cf223:CF:=⟨1,2,[(.node (.ld 2 true) (.cons (.var 1) .nil))],bd223,.plain⟩
def tr223:List Nat:=[0,2]
def bd224:Stm:=
 q (s [(1,.cst (.slice none 0 0))]) (q (s [(2,n1 .len (x 0))]) (q (.block 0 (.loop (q (.cond (p (b .gtr (x 2) (i 0)) (b .eql (ld (n2 (.iAddr 1) (x 0) (b .sub
 (x 2) (i 1)))) (.cst (.int .u32 0))) (.cst (.bool false))) .skip (.exit 0)) (.block 1 (s [(2,b .sub (x 2) (i 1))]))))) (q (s [(1,n2 (.sl 1 false true false)
 (x 0) (x 2))]) .ret)))
def cf224:CF:=⟨1,3,[(.var 1)],bd224,.plain⟩
def tr224:List Nat:=[0,2,3]
def bd226:Stm:=
 q (s [(1,.cst (.string ⟨ #[] ⟩))]) (q (q (cl 2 233 (c2 (x 0) (i 10))) (s [(1,x 2)])) .ret)
def cf226:CF:=⟨1,3,[(.var 1)],bd226,.plain⟩
def tr226:List Nat:=[0,2,4]
def bd227:Stm:=
 q (s [(2,.cst (.bool false))]) (q (q (cl 3 234 (c2 (x 0) (x 1))) (s [(2,x 3)])) .ret)
def cf227:CF:=⟨2,4,[(.var 2)],bd227,.plain⟩
def tr227:List Nat:=[0,1,4,7]
def bd229:Stm:=
 q (s [(1,i 0)]) (q (s [(1,n1 .len (ld (fa 1 (n1 .nilChk (x 0)))))]) .ret)
def cf229:CF:=⟨1,2,[(.var 1)],bd229,.plain⟩
def tr229:List Nat:=[0,2]
def bd230:Stm:=
 q (s [(3,.cst (.bool false)),(2,.cst (.string ⟨ #[] ⟩))]) (q (q (cl 4 236 (c2 (x 0) (x 1))) (s [(3,ix 1 (x 4)),(2,ix 0 (x 4))])) .ret)
def cf230:CF:=⟨2,5,[(.var 2),(.var 3)],bd230,.plain⟩
def tr230:List Nat:=[0,1,4,5,8]
def bd231:Stm:=
 q (s [(2,b .sub (n1 .len (x 0)) (i 1)),(1,i 0)]) (.block 0 (.loop (q (.cond (b .lss (x 1) (x 2)) .skip (.exit 0)) (q (.block 1 (q (.hv [(5,ld (n2 (.iAddr 1)
 (x 0) (x 1))),(4,x 2),(3,x 0)] [] [] none (.st 1) (c2 (n2 (.iAddr 1) (x 0) (x 1)) (ld (n2 (.iAddr 1) (x 0) (x 2))))) (.hv [] [] [] none (.st 1) (c2 (n2
 (.iAddr 1) (x 3) (x 4)) (x 5))))) (s [(2,b .sub (x 2) (i 1)),(1,b .add (x 1) (i 1))])))))
def cf231:CF:=⟨1,6,[],bd231,.plain⟩
def tr231:List Nat:=[0,2,3,16,17,25]
def bd233:Stm:=
 q (s [(2,.cst (.string ⟨ #[] ⟩))]) (q (.cond (b .eql (x 1) (i 10)) (q (.cond (p (b .leq (i 0) (x 0)) (b .lss (x 0) (i 100)) (.cst (.bool false))) (q (q (cl 7
 237 (c1 (x 0))) (s [(2,x 7)])) .ret) .skip) (q (h 3 (.alloc (List.replicate 24 (.int .u8 0))) .nil) (q (s [(4,n1 (.cvt .u64) (x 0))]) (q (.cond (b .lss (x
 0) (i 0)) (s [(4,n1 (.un .neg) (x 4))]) .skip) (q (q (cl 8 238 (c1 (x 4))) (s [(5,x 8)])) (q (.hv [] [] [] none (.call false) (c3 (.cst (.func (.func 239)
 #[] #[])) (.node (.slA 24 1 true true false) (c3 (x 3) (i 1) (b .add (i 1) (x 5)))) (x 4))) (q (.cond (b .lss (x 0) (i 0)) (q (.hv [] [] [] none (.st 1) (c2
 (n2 (.iAddrA 24 1) (x 3) (i 0)) (.cst (.int .u8 45)))) (q (s [(2,n1 .b2s (n2 (.slA 24 1 false true false) (x 3) (b .add (i 1) (x 5))))]) .ret)) .skip) (q (s
 [(2,n1 .b2s (.node (.slA 24 1 true true false) (c3 (x 3) (i 1) (b .add (i 1) (x 5)))))]) .ret)))))))) .skip) (q (q (cl 9 240 (c (.cst (.slice none 0 0)) (c
 (n1 (.cvt .u64) (x 0)) (c3 (x 1) (b .lss (x 0) (i 0)) (.cst (.bool false)))))) (.sets [(6,ix 1 (x 9))] [ix 0 (x 9)])) (q (s [(2,x 6)]) .ret)))
def cf233:CF:=⟨2,10,[(.var 2)],bd233,.plain⟩
def tr233:List Nat:=[0,1,4,5,6,7,9,19,27,50]
def bd234:Stm:=
 q (s [(2,.cst (.bool false))]) (q (s [(2,p (b .geq (n1 .lenS (x 0)) (n1 .lenS (x 1))) (b .eql (n2 (.slS false true) (x 0) (n1 .lenS (x 1))) (x 1)) (.cst
 (.bool false)))]) .ret)
def cf234:CF:=⟨2,3,[(.var 2)],bd234,.plain⟩
def tr234:List Nat:=[0,1,4]
def bd236:Stm:=
 q (s [(3,.cst (.bool false)),(2,.cst (.string ⟨ #[] ⟩))]) (q (q (cl 4 234 (c2 (x 0) (x 1))) (.cond (n1 (.un .not) (x 4)) (q (s [(3,.cst (.bool false)),(2,
 x 0)]) .ret) .skip)) (q (s [(3,.cst (.bool true)),(2,n2 (.slS true false) (x 0) (n1 .lenS (x 1)))]) .ret))
def cf236:CF:=⟨2,5,[(.var 2),(.var 3)],bd236,.plain⟩
def tr236:List Nat:=[0,1,4,5,8]
def bd237:Stm:=
 q (s [(1,.cst (.string ⟨ #[] ⟩))]) (q (.cond (b .lss (x 0) (i 10)) (q (s [(1,.node (.slS true true) (c3 (.cst (.string lit8)) (x 0) (b .add (x 0) (i 1))))])
 .ret) .skip) (q (s [(1,.node (.slS true true) (c3 (.cst (.string lit9)) (b .mul (x 0) (i 2)) (b .add (b .mul (x 0) (i 2)) (i 2))))]) .ret))
def cf237:CF:=⟨1,2,[(.var 1)],bd237,.plain⟩
def tr237:List Nat:=[0,2]
def bd238:Stm:=
 q (s [(1,i 0)]) (q (q (cl 3 211 (c1 (x 0))) (q (cl 4 242 (c1 (x 3))) (s [(2,x 4)]))) (q (q (.hv [(5,x 2)] [] [] (some 6) (.call false) (c2 (.cst (.func
 (.func 243) #[] #[])) (b .geq (x 0) (ld (n2 (.iAddrA 20 1) (.cst (.pointer (some ⟨0,0,none⟩))) (x 2)))))) (s [(1,b .add (x 5) (x 6))])) .ret))
def cf238:CF:=⟨1,7,[(.var 1)],bd238,.plain⟩
def tr238:List Nat:=[0,2,3,5,6,7,13]
def bd239:Stm:=
 q (s [(2,n1 .len (x 0))]) (q (.block 0 (.loop (q (.cond (b .geq (x 2) (i 8)) .skip (.exit 0)) (.block 1 (q (s [(3,n1 (.cvt .u32) (b .rem (x 1) (.cst (.int
 .u64 100000000))))]) (q (s [(1,b .quo (x 1) (.cst (.int .u64 100000000)))]) (q (s [(5,b .rem (x 3) (.cst (.int .u32 10000))),(4,b .quo (x 3) (.cst (.int
 .u32 10000)))]) (q (s [(7,b .mul (b .rem (x 5) (.cst (.int .u32 100))) (.cst (.int .u32 2))),(6,b .mul (b .quo (x 5) (.cst (.int .u32 100))) (.cst (.int
 .u32 2)))]) (q (s [(9,b .mul (b .rem (x 4) (.cst (.int .u32 100))) (.cst (.int .u32 2))),(8,b .mul (b .quo (x 4) (.cst (.int .u32 100))) (.cst (.int .u32
 2)))]) (q (q (.hv [(17,n2 .idxS (.cst (.string lit9)) (x 7)),(16,b .sub (x 2) (i 2)),(15,x 0)] [] [] none (.st 1) (c2 (n2 (.iAddr 1) (x 0) (b .sub (x 2)
 (i 1))) (n2 .idxS (.cst (.string lit9)) (b .add (x 7) (.cst (.int .u32 1)))))) (.hv [] [] [] none (.st 1) (c2 (n2 (.iAddr 1) (x 15) (x 16)) (x 17)))) (q (q
 (.hv [(20,n2 .idxS (.cst (.string lit9)) (x 6)),(19,b .sub (x 2) (i 4)),(18,x 0)] [] [] none (.st 1) (c2 (n2 (.iAddr 1) (x 0) (b .sub (x 2) (i 3))) (n2
 .idxS (.cst (.string lit9)) (b .add (x 6) (.cst (.int .u32 1)))))) (.hv [] [] [] none (.st 1) (c2 (n2 (.iAddr 1) (x 18) (x 19)) (x 20)))) (q (q (.hv [(23,n2
 .idxS (.cst (.string lit9)) (x 9)),(22,b .sub (x 2) (i 6)),(21,x 0)] [] [] none (.st 1) (c2 (n2 (.iAddr 1) (x 0) (b .sub (x 2) (i 5))) (n2 .idxS (.cst
 (.string lit9)) (b .add (x 9) (.cst (.int .u32 1)))))) (.hv [] [] [] none (.st 1) (c2 (n2 (.iAddr 1) (x 21) (x 22)) (x 23)))) (q (q (.hv [(26,n2 .idxS (.cst
 (.string lit9)) (x 8)),(25,b .sub (x 2) (i 8)),(24,x 0)] [] [] none (.st 1) (c2 (n2 (.iAddr 1) (x 0) (b .sub (x 2) (i 7))) (n2 .idxS (.cst (.string lit9))
 (b .add (x 8) (.cst (.int .u32 1)))))) (.hv [] [] [] none (.st 1) (c2 (n2 (.iAddr 1) (x 24) (x 25)) (x 26)))) (s [(2,b .sub (x 2) (i 8))])))))))))))))) (q (s
 [(10,n1 (.cvt .u32) (x 1))]) (q (.cond (b .geq (x 2) (i 4)) (q (s [(11,b .rem (x 10) (.cst (.int .u32 10000)))]) (q (s [(10,b .quo (x 10) (.cst (.int .u32
 10000)))]) (q (s [(13,b .mul (b .rem (x 11) (.cst (.int .u32 100))) (.cst (.int .u32 2))),(12,b .mul (b .quo (x 11) (.cst (.int .u32 100))) (.cst (.int
 .u32 2)))]) (q (q (.hv [(29,n2 .idxS (.cst (.string lit9)) (x 13)),(28,b .sub (x 2) (i 2)),(27,x 0)] [] [] none (.st 1) (c2 (n2 (.iAddr 1) (x 0) (b .sub
 (x 2) (i 1))) (n2 .idxS (.cst (.string lit9)) (b .add (x 13) (.cst (.int .u32 1)))))) (.hv [] [] [] none (.st 1) (c2 (n2 (.iAddr 1) (x 27) (x 28)) (x 29))))
 (q (q (.hv [(32,n2 .idxS (.cst (.string lit9)) (x 12)),(31,b .sub (x 2) (i 4)),(30,x 0)] [] [] none (.st 1) (c2 (n2 (.iAddr 1) (x 0) (b .sub (x 2) (i
 3))) (n2 .idxS (.cst (.string lit9)) (b .add (x 12) (.cst (.int .u32 1)))))) (.hv [] [] [] none (.st 1) (c2 (n2 (.iAddr 1) (x 30) (x 31)) (x 32)))) (s [(2,b
 .sub (x 2) (i 4))])))))) .skip) (q (.cond (b .geq (x 2) (i 2)) (q (s [(14,b .mul (b .rem (x 10) (.cst (.int .u32 100))) (.cst (.int .u32 2)))]) (q (s [(10,b
 .quo (x 10) (.cst (.int .u32 100)))]) (q (q (.hv [(35,n2 .idxS (.cst (.string lit9)) (x 14)),(34,b .sub (x 2) (i 2)),(33,x 0)] [] [] none (.st 1) (c2 (n2
 (.iAddr 1) (x 0) (b .sub (x 2) (i 1))) (n2 .idxS (.cst (.string lit9)) (b .add (x 14) (.cst (.int .u32 1)))))) (.hv [] [] [] none (.st 1) (c2 (n2 (.iAddr 1)
 (x 33) (x 34)) (x 35)))) (s [(2,b .sub (x 2) (i 2))])))) .skip) (.cond (b .gtr (x 2) (i 0)) (.hv [] [] [] none (.st 1) (c2 (n2 (.iAddr 1) (x 0) (i 0)) (n1
 (.cvt .u8) (b .add (.cst (.int .u32 48)) (x 10))))) .skip)))))
def cf239:CF:=⟨2,36,[],bd239,.plain⟩
def tr239:List Nat:=[0,1,4,5,6,7,8,9,10,11,12,13,14,15,16,45,47,52,58,60,65,71,73,78,84,86,91,113,115,120,126,128,133,148,150,155]
def bd240:Stm:=
 q (s [(6,.cst (.string ⟨ #[] ⟩)),(5,.cst (.slice none 0 0))]) (q (.cond (p (p (b .lss (x 2) (i 2)) (.cst (.bool true)) (b .eql (x 2) (i 10))) (.cst (.bool
 true)) (b .gtr (x 2) (i 36))) (.hv [] [] [] none .pan (c1 (n1 (.mkI 9) (.cst (.string lit10))))) .skip) (q (h 7 (.alloc (List.replicate 65 (.int .u8 0)))
 .nil) (q (s [(8,i 65)]) (q (.cond (x 3) (s [(1,n1 (.un .neg) (x 1))]) .skip) (q (q (cl 14 244 (c1 (x 2))) (.cond (x 14) (q (q (cl 15 245 (c1 (n1 (.cvt .u64)
 (x 2)))) (s [(9,n1 (.cvt .u64) (x 15))])) (q (s [(10,n1 (.cvt .u64) (x 2))]) (q (s [(11,b .sub (n1 (.cvt .u64) (x 2)) (.cst (.int .u64 1)))]) (q (.block 0
 (.loop (q (.cond (b .geq (x 1) (x 10)) .skip (.exit 0)) (.block 1 (q (s [(8,b .sub (x 8) (i 1))]) (q (.hv [] [] [] none (.st 1) (c2 (n2 (.iAddrA 65 1) (x 7)
 (x 8)) (n2 .idxS (.cst (.string lit8)) (b .and (x 1) (x 11))))) (s [(1,b .shr (x 1) (x 9))]))))))) (q (s [(8,b .sub (x 8) (i 1))]) (.hv [] [] [] none (.st
 1) (c2 (n2 (.iAddrA 65 1) (x 7) (x 8)) (n2 .idxS (.cst (.string lit8)) (x 1))))))))) (q (s [(12,n1 (.cvt .u64) (x 2))]) (q (.block 2 (.loop (q (.cond (b .geq
 (x 1) (x 12)) .skip (.exit 2)) (.block 3 (q (s [(8,b .sub (x 8) (i 1))]) (q (s [(13,b .quo (x 1) (x 12))]) (q (.hv [] [] [] none (.st 1) (c2 (n2 (.iAddrA 65
 1) (x 7) (x 8)) (n2 .idxS (.cst (.string lit8)) (b .sub (x 1) (b .mul (x 13) (x 12)))))) (s [(1,x 13)])))))))) (q (s [(8,b .sub (x 8) (i 1))]) (.hv [] [] []
 none (.st 1) (c2 (n2 (.iAddrA 65 1) (x 7) (x 8)) (n2 .idxS (.cst (.string lit8)) (x 1))))))))) (q (.cond (x 3) (q (s [(8,b .sub (x 8) (i 1))]) (.hv [] [] []
 none (.st 1) (c2 (n2 (.iAddrA 65 1) (x 7) (x 8)) (.cst (.int .u8 45))))) .skip) (q (.cond (x 4) (q (q (h 16 (.app 1 [.int .u8 0]) (c2 (x 0) (n2 (.slA 65 1
 true false false) (x 7) (x 8)))) (s [(5,x 16)])) .ret) .skip) (q (s [(6,n1 .b2s (n2 (.slA 65 1 true false false) (x 7) (x 8)))]) .ret))))))))
def cf240:CF:=⟨5,17,[(.var 5),(.var 6)],bd240,.plain⟩
def tr240:List Nat:=[0,1,2,3,4,10,11,12,13,14,15,16,17,18,34,37,98]
def bd242:Stm:=
 q (s [(1,i 0)]) (q (s [(1,b .shr (b .mul (x 0) (i 78913)) (.cst (.int .u64 18)))]) .ret)
def cf242:CF:=⟨1,2,[(.var 1)],bd242,.plain⟩
def tr242:List Nat:=[0,2]
def bd243:Stm:=
 q (s [(1,i 0)]) (q (.cond (x 0) (q (s [(1,i 1)]) .ret) .skip) (q (s [(1,i 0)]) .ret))
def cf243:CF:=⟨1,2,[(.var 1)],bd243,.plain⟩
def tr243:List Nat:=[0,2]
def bd244:Stm:=
 q (s [(1,.cst (.bool false))]) (q (s [(1,b .eql (b .and (x 0) (b .sub (x 0) (i 1))) (i 0))]) .ret)
def cf244:CF:=⟨1,2,[(.var 1)],bd244,.plain⟩
def tr244:List Nat:=[0,2]
def bd245:Stm:=
 q (q (s [(1,i 0)]) (.cond (.cst (.bool false)) (q (q (cl 2 246 (c1 (n1 (.cvt .u32) (x 0)))) (s [(1,x 2)])) .ret) .skip)) (q (q (cl 3 247 (c1 (x 0))) (s [(1,x
 3)])) .ret)
def cf245:CF:=⟨1,4,[(.var 1)],bd245,.plain⟩
def tr245:List Nat:=[0,2,5,7]
def bd246:Stm:=
 q (s [(1,i 0)]) (q (.cond (b .eql (x 0) (.cst (.int .u32 0))) (q (s [(1,i 32)]) .ret) .skip) (q (s [(1,n1 (.cvt .i64) (ld (n2 (.iAddrA 32 1) (.cst (.pointer
 (some ⟨2,0,none⟩))) (b .shr (b .mul (b .and (x 0) (n1 (.un .neg) (x 0))) (.cst (.int .u32 125613361))) (.cst (.int .u64 27))))))]) .ret))
def cf246:CF:=⟨1,2,[(.var 1)],bd246,.plain⟩
def tr246:List Nat:=[0,2]
def bd247:Stm:=
 q (s [(1,i 0)]) (q (.cond (b .eql (x 0) (.cst (.int .u64 0))) (q (s [(1,i 64)]) .ret) .skip) (q (s [(1,n1 (.cvt .i64) (ld (n2 (.iAddrA 64 1) (.cst (.pointer
 (some ⟨3,0,none⟩))) (b .shr (b .mul (b .and (x 0) (n1 (.un .neg) (x 0))) (.cst (.int .u64 285870213051353865))) (.cst (.int .u64 58))))))]) .ret))
def cf247:CF:=⟨1,2,[(.var 1)],bd247,.plain⟩
def tr247:List Nat:=[0,2]
end
theorem is3:compFunc Tryz.prog tr3 3=some cf3:=by kernel_rfl
theorem is7:compFunc Tryz.prog tr7 7=some cf7:=by kernel_rfl
theorem is9:compFunc Tryz.prog tr9 9=some cf9:=by kernel_rfl
theorem is10:compFunc Tryz.prog tr10 10=some cf10:=by kernel_rfl
theorem is11:compFunc Tryz.prog tr11 11=some cf11:=by kernel_rfl
theorem is12:compFunc Tryz.prog tr12 12=some cf12:=by kernel_rfl
theorem is13:compFunc Tryz.prog tr13 13=some cf13:=by kernel_rfl
theorem is14:compFunc Tryz.prog tr14 14=some cf14:=by kernel_rfl
theorem is15:compFunc Tryz.prog tr15 15=some cf15:=by kernel_rfl
theorem is17:compFunc Tryz.prog tr17 17=some cf17:=by kernel_rfl
theorem is20:compFunc Tryz.prog tr20 20=some cf20:=by kernel_rfl
theorem is23:compFunc Tryz.prog tr23 23=some cf23:=by kernel_rfl
theorem is24:compFunc Tryz.prog tr24 24=some cf24:=by kernel_rfl
theorem is25:compFunc Tryz.prog tr25 25=some cf25:=by kernel_rfl
theorem is26:compFunc Tryz.prog tr26 26=some cf26:=by kernel_rfl
theorem is27:compFunc Tryz.prog tr27 27=some cf27:=by kernel_rfl
theorem is28:compFunc Tryz.prog tr28 28=some cf28:=by kernel_rfl
theorem is29:compFunc Tryz.prog tr29 29=some cf29:=by kernel_rfl
theorem is31:compFunc Tryz.prog tr31 31=some cf31:=by kernel_rfl
theorem is32:compFunc Tryz.prog tr32 32=some cf32:=by kernel_rfl
theorem is33:compFunc Tryz.prog tr33 33=some cf33:=by kernel_rfl
theorem is34:compFunc Tryz.prog tr34 34=some cf34:=by kernel_rfl
theorem is35:compFunc Tryz.prog tr35 35=some cf35:=by kernel_rfl
theorem is43:compFunc Tryz.prog tr43 43=some cf43:=by kernel_rfl
theorem is44:compFunc Tryz.prog tr44 44=some cf44:=by kernel_rfl
theorem is45:compFunc Tryz.prog tr45 45=some cf45:=by kernel_rfl
theorem is46:compFunc Tryz.prog tr46 46=some cf46:=by kernel_rfl
theorem is47:compFunc Tryz.prog tr47 47=some cf47:=by kernel_rfl
theorem is48:compFunc Tryz.prog tr48 48=some cf48:=by kernel_rfl
theorem is49:compFunc Tryz.prog tr49 49=some cf49:=by kernel_rfl
theorem is50:compFunc Tryz.prog tr50 50=some cf50:=by kernel_rfl
theorem is51:compFunc Tryz.prog tr51 51=some cf51:=by kernel_rfl
theorem is59:compFunc Tryz.prog tr59 59=some cf59:=by kernel_rfl
theorem is60:compFunc Tryz.prog tr60 60=some cf60:=by kernel_rfl
theorem is61:compFunc Tryz.prog tr61 61=some cf61:=by kernel_rfl
theorem is62:compFunc Tryz.prog tr62 62=some cf62:=by kernel_rfl
theorem is63:compFunc Tryz.prog tr63 63=some cf63:=by kernel_rfl
theorem is64:compFunc Tryz.prog tr64 64=some cf64:=by kernel_rfl
theorem is65:compFunc Tryz.prog tr65 65=some cf65:=by kernel_rfl
theorem is66:compFunc Tryz.prog tr66 66=some cf66:=by kernel_rfl
theorem is67:compFunc Tryz.prog tr67 67=some cf67:=by kernel_rfl
theorem is68:compFunc Tryz.prog tr68 68=some cf68:=by kernel_rfl
theorem is69:compFunc Tryz.prog tr69 69=some cf69:=by kernel_rfl
theorem is70:compFunc Tryz.prog tr70 70=some cf70:=by kernel_rfl
theorem is71:compFunc Tryz.prog tr71 71=some cf71:=by kernel_rfl
theorem is72:compFunc Tryz.prog tr72 72=some cf72:=by kernel_rfl
theorem is73:compFunc Tryz.prog tr73 73=some cf73:=by kernel_rfl
theorem is85:compFunc Tryz.prog tr85 85=some cf85:=by kernel_rfl
theorem is86:compFunc Tryz.prog tr86 86=some cf86:=by kernel_rfl
theorem is87:compFunc Tryz.prog tr87 87=some cf87:=by kernel_rfl
theorem is88:compFunc Tryz.prog tr88 88=some cf88:=by kernel_rfl
theorem is89:compFunc Tryz.prog tr89 89=some cf89:=by kernel_rfl
theorem is90:compFunc Tryz.prog tr90 90=some cf90:=by kernel_rfl
theorem is92:compFunc Tryz.prog tr92 92=some cf92:=by kernel_rfl
theorem is93:compFunc Tryz.prog tr93 93=some cf93:=by kernel_rfl
theorem is94:compFunc Tryz.prog tr94 94=some cf94:=by kernel_rfl
theorem is95:compFunc Tryz.prog tr95 95=some cf95:=by kernel_rfl
theorem is96:compFunc Tryz.prog tr96 96=some cf96:=by kernel_rfl
theorem is97:compFunc Tryz.prog tr97 97=some cf97:=by kernel_rfl
theorem is98:compFunc Tryz.prog tr98 98=some cf98:=by kernel_rfl
theorem is106:compFunc Tryz.prog tr106 106=some cf106:=by kernel_rfl
theorem is107:compFunc Tryz.prog tr107 107=some cf107:=by kernel_rfl
theorem is108:compFunc Tryz.prog tr108 108=some cf108:=by kernel_rfl
theorem is109:compFunc Tryz.prog tr109 109=some cf109:=by kernel_rfl
theorem is110:compFunc Tryz.prog tr110 110=some cf110:=by kernel_rfl
theorem is111:compFunc Tryz.prog tr111 111=some cf111:=by kernel_rfl
theorem is112:compFunc Tryz.prog tr112 112=some cf112:=by kernel_rfl
theorem is113:compFunc Tryz.prog tr113 113=some cf113:=by kernel_rfl
theorem is114:compFunc Tryz.prog tr114 114=some cf114:=by kernel_rfl
theorem is115:compFunc Tryz.prog tr115 115=some cf115:=by kernel_rfl
theorem is116:compFunc Tryz.prog tr116 116=some cf116:=by kernel_rfl
theorem is117:compFunc Tryz.prog tr117 117=some cf117:=by kernel_rfl
theorem is118:compFunc Tryz.prog tr118 118=some cf118:=by kernel_rfl
theorem is119:compFunc Tryz.prog tr119 119=some cf119:=by kernel_rfl
theorem is120:compFunc Tryz.prog tr120 120=some cf120:=by kernel_rfl
theorem is130:compFunc Tryz.prog tr130 130=some cf130:=by kernel_rfl
theorem is131:compFunc Tryz.prog tr131 131=some cf131:=by kernel_rfl
theorem is132:compFunc Tryz.prog tr132 132=some cf132:=by kernel_rfl
theorem is133:compFunc Tryz.prog tr133 133=some cf133:=by kernel_rfl
theorem is134:compFunc Tryz.prog tr134 134=some cf134:=by kernel_rfl
theorem is135:compFunc Tryz.prog tr135 135=some cf135:=by kernel_rfl
theorem is136:compFunc Tryz.prog tr136 136=some cf136:=by kernel_rfl
theorem is137:compFunc Tryz.prog tr137 137=some cf137:=by kernel_rfl
theorem is138:compFunc Tryz.prog tr138 138=some cf138:=by kernel_rfl
theorem is139:compFunc Tryz.prog tr139 139=some cf139:=by kernel_rfl
theorem is140:compFunc Tryz.prog tr140 140=some cf140:=by kernel_rfl
theorem is141:compFunc Tryz.prog tr141 141=some cf141:=by kernel_rfl
theorem is142:compFunc Tryz.prog tr142 142=some cf142:=by kernel_rfl
theorem is153:compFunc Tryz.prog tr153 153=some cf153:=by kernel_rfl
theorem is154:compFunc Tryz.prog tr154 154=some cf154:=by kernel_rfl
theorem is155:compFunc Tryz.prog tr155 155=some cf155:=by kernel_rfl
theorem is156:compFunc Tryz.prog tr156 156=some cf156:=by kernel_rfl
theorem is157:compFunc Tryz.prog tr157 157=some cf157:=by kernel_rfl
theorem is158:compFunc Tryz.prog tr158 158=some cf158:=by kernel_rfl
theorem is159:compFunc Tryz.prog tr159 159=some cf159:=by kernel_rfl
theorem is160:compFunc Tryz.prog tr160 160=some cf160:=by kernel_rfl
theorem is161:compFunc Tryz.prog tr161 161=some cf161:=by kernel_rfl
theorem is162:compFunc Tryz.prog tr162 162=some cf162:=by kernel_rfl
theorem is163:compFunc Tryz.prog tr163 163=some cf163:=by kernel_rfl
theorem is164:compFunc Tryz.prog tr164 164=some cf164:=by kernel_rfl
theorem is165:compFunc Tryz.prog tr165 165=some cf165:=by kernel_rfl
theorem is166:compFunc Tryz.prog tr166 166=some cf166:=by kernel_rfl
theorem is167:compFunc Tryz.prog tr167 167=some cf167:=by kernel_rfl
theorem is175:compFunc Tryz.prog tr175 175=some cf175:=by kernel_rfl
theorem is176:compFunc Tryz.prog tr176 176=some cf176:=by kernel_rfl
theorem is177:compFunc Tryz.prog tr177 177=some cf177:=by kernel_rfl
theorem is178:compFunc Tryz.prog tr178 178=some cf178:=by kernel_rfl
theorem is179:compFunc Tryz.prog tr179 179=some cf179:=by kernel_rfl
theorem is180:compFunc Tryz.prog tr180 180=some cf180:=by kernel_rfl
theorem is181:compFunc Tryz.prog tr181 181=some cf181:=by kernel_rfl
theorem is182:compFunc Tryz.prog tr182 182=some cf182:=by kernel_rfl
theorem is183:compFunc Tryz.prog tr183 183=some cf183:=by kernel_rfl
theorem is184:compFunc Tryz.prog tr184 184=some cf184:=by kernel_rfl
theorem is185:compFunc Tryz.prog tr185 185=some cf185:=by kernel_rfl
theorem is186:compFunc Tryz.prog tr186 186=some cf186:=by kernel_rfl
theorem is187:compFunc Tryz.prog tr187 187=some cf187:=by kernel_rfl
theorem is188:compFunc Tryz.prog tr188 188=some cf188:=by kernel_rfl
theorem is189:compFunc Tryz.prog tr189 189=some cf189:=by kernel_rfl
theorem is195:compFunc Tryz.prog tr195 195=some cf195:=by kernel_rfl
theorem is196:compFunc Tryz.prog tr196 196=some cf196:=by kernel_rfl
theorem is197:compFunc Tryz.prog tr197 197=some cf197:=by kernel_rfl
theorem is198:compFunc Tryz.prog tr198 198=some cf198:=by kernel_rfl
theorem is199:compFunc Tryz.prog tr199 199=some cf199:=by kernel_rfl
theorem is200:compFunc Tryz.prog tr200 200=some cf200:=by kernel_rfl
theorem is201:compFunc Tryz.prog tr201 201=some cf201:=by kernel_rfl
theorem is203:compFunc Tryz.prog tr203 203=some cf203:=by kernel_rfl
theorem is204:compFunc Tryz.prog tr204 204=some cf204:=by kernel_rfl
theorem is205:compFunc Tryz.prog tr205 205=some cf205:=by kernel_rfl
theorem is206:compFunc Tryz.prog tr206 206=some cf206:=by kernel_rfl
theorem is207:compFunc Tryz.prog tr207 207=some cf207:=by kernel_rfl
theorem is208:compFunc Tryz.prog tr208 208=some cf208:=by kernel_rfl
theorem is209:compFunc Tryz.prog tr209 209=some cf209:=by kernel_rfl
theorem is210:compFunc Tryz.prog tr210 210=some cf210:=by kernel_rfl
theorem is211:compFunc Tryz.prog tr211 211=some cf211:=by kernel_rfl
theorem is212:compFunc Tryz.prog tr212 212=some cf212:=by kernel_rfl
theorem is213:compFunc Tryz.prog tr213 213=some cf213:=by kernel_rfl
theorem is214:compFunc Tryz.prog tr214 214=some cf214:=by kernel_rfl
theorem is215:compFunc Tryz.prog tr215 215=some cf215:=by kernel_rfl
theorem is216:compFunc Tryz.prog tr216 216=some cf216:=by kernel_rfl
theorem is217:compFunc Tryz.prog tr217 217=some cf217:=by kernel_rfl
theorem is218:compFunc Tryz.prog tr218 218=some cf218:=by kernel_rfl
theorem is219:compFunc Tryz.prog tr219 219=some cf219:=by kernel_rfl
theorem is221:compFunc Tryz.prog tr221 221=some cf221:=by kernel_rfl
theorem is222:compFunc Tryz.prog tr222 222=some cf222:=by kernel_rfl
theorem is223:compFunc Tryz.prog tr223 223=some cf223:=by kernel_rfl
theorem is224:compFunc Tryz.prog tr224 224=some cf224:=by kernel_rfl
theorem is226:compFunc Tryz.prog tr226 226=some cf226:=by kernel_rfl
theorem is227:compFunc Tryz.prog tr227 227=some cf227:=by kernel_rfl
theorem is229:compFunc Tryz.prog tr229 229=some cf229:=by kernel_rfl
theorem is230:compFunc Tryz.prog tr230 230=some cf230:=by kernel_rfl
theorem is231:compFunc Tryz.prog tr231 231=some cf231:=by kernel_rfl
theorem is233:compFunc Tryz.prog tr233 233=some cf233:=by kernel_rfl
theorem is234:compFunc Tryz.prog tr234 234=some cf234:=by kernel_rfl
theorem is236:compFunc Tryz.prog tr236 236=some cf236:=by kernel_rfl
theorem is237:compFunc Tryz.prog tr237 237=some cf237:=by kernel_rfl
theorem is238:compFunc Tryz.prog tr238 238=some cf238:=by kernel_rfl
theorem is239:compFunc Tryz.prog tr239 239=some cf239:=by kernel_rfl
theorem is240:compFunc Tryz.prog tr240 240=some cf240:=by kernel_rfl
theorem is242:compFunc Tryz.prog tr242 242=some cf242:=by kernel_rfl
theorem is243:compFunc Tryz.prog tr243 243=some cf243:=by kernel_rfl
theorem is244:compFunc Tryz.prog tr244 244=some cf244:=by kernel_rfl
theorem is245:compFunc Tryz.prog tr245 245=some cf245:=by kernel_rfl
theorem is246:compFunc Tryz.prog tr246 246=some cf246:=by kernel_rfl
theorem is247:compFunc Tryz.prog tr247 247=some cf247:=by kernel_rfl
def cp0x:FuncId→Option CF
 | 3=>some cf3
 | 7=>some cf7
 | 9=>some cf9
 | 10=>some cf10
 | 11=>some cf11
 | 12=>some cf12
 | 13=>some cf13
 | 14=>some cf14
 | 15=>some cf15
 | _=>none
theorem compiled0x(f:FuncId)(cf:CF)(h:cp0x f=some cf):∃t,compFunc Tryz.prog t f=some cf:=by
 unfold cp0x at h
 split at h
 ·cases h;exact⟨_,is3⟩
 ·cases h;exact⟨_,is7⟩
 ·cases h;exact⟨_,is9⟩
 ·cases h;exact⟨_,is10⟩
 ·cases h;exact⟨_,is11⟩
 ·cases h;exact⟨_,is12⟩
 ·cases h;exact⟨_,is13⟩
 ·cases h;exact⟨_,is14⟩
 ·cases h;exact⟨_,is15⟩
 ·simp at h
def cp1x:FuncId→Option CF
 | 17=>some cf17
 | 20=>some cf20
 | 23=>some cf23
 | 24=>some cf24
 | 25=>some cf25
 | 26=>some cf26
 | 27=>some cf27
 | 28=>some cf28
 | 29=>some cf29
 | 31=>some cf31
 | _=>none
theorem compiled1x(f:FuncId)(cf:CF)(h:cp1x f=some cf):∃t,compFunc Tryz.prog t f=some cf:=by
 unfold cp1x at h
 split at h
 ·cases h;exact⟨_,is17⟩
 ·cases h;exact⟨_,is20⟩
 ·cases h;exact⟨_,is23⟩
 ·cases h;exact⟨_,is24⟩
 ·cases h;exact⟨_,is25⟩
 ·cases h;exact⟨_,is26⟩
 ·cases h;exact⟨_,is27⟩
 ·cases h;exact⟨_,is28⟩
 ·cases h;exact⟨_,is29⟩
 ·cases h;exact⟨_,is31⟩
 ·simp at h
def cp2x:FuncId→Option CF
 | 32=>some cf32
 | 33=>some cf33
 | 34=>some cf34
 | 35=>some cf35
 | 43=>some cf43
 | 44=>some cf44
 | 45=>some cf45
 | 46=>some cf46
 | 47=>some cf47
 | _=>none
theorem compiled2x(f:FuncId)(cf:CF)(h:cp2x f=some cf):∃t,compFunc Tryz.prog t f=some cf:=by
 unfold cp2x at h
 split at h
 ·cases h;exact⟨_,is32⟩
 ·cases h;exact⟨_,is33⟩
 ·cases h;exact⟨_,is34⟩
 ·cases h;exact⟨_,is35⟩
 ·cases h;exact⟨_,is43⟩
 ·cases h;exact⟨_,is44⟩
 ·cases h;exact⟨_,is45⟩
 ·cases h;exact⟨_,is46⟩
 ·cases h;exact⟨_,is47⟩
 ·simp at h
def cp3x:FuncId→Option CF
 | 48=>some cf48
 | 49=>some cf49
 | 50=>some cf50
 | 51=>some cf51
 | 59=>some cf59
 | 60=>some cf60
 | 61=>some cf61
 | 62=>some cf62
 | 63=>some cf63
 | _=>none
theorem compiled3x(f:FuncId)(cf:CF)(h:cp3x f=some cf):∃t,compFunc Tryz.prog t f=some cf:=by
 unfold cp3x at h
 split at h
 ·cases h;exact⟨_,is48⟩
 ·cases h;exact⟨_,is49⟩
 ·cases h;exact⟨_,is50⟩
 ·cases h;exact⟨_,is51⟩
 ·cases h;exact⟨_,is59⟩
 ·cases h;exact⟨_,is60⟩
 ·cases h;exact⟨_,is61⟩
 ·cases h;exact⟨_,is62⟩
 ·cases h;exact⟨_,is63⟩
 ·simp at h
def cp4x:FuncId→Option CF
 | 64=>some cf64
 | 65=>some cf65
 | 66=>some cf66
 | 67=>some cf67
 | 68=>some cf68
 | 69=>some cf69
 | 70=>some cf70
 | 71=>some cf71
 | 72=>some cf72
 | 73=>some cf73
 | _=>none
theorem compiled4x(f:FuncId)(cf:CF)(h:cp4x f=some cf):∃t,compFunc Tryz.prog t f=some cf:=by
 unfold cp4x at h
 split at h
 ·cases h;exact⟨_,is64⟩
 ·cases h;exact⟨_,is65⟩
 ·cases h;exact⟨_,is66⟩
 ·cases h;exact⟨_,is67⟩
 ·cases h;exact⟨_,is68⟩
 ·cases h;exact⟨_,is69⟩
 ·cases h;exact⟨_,is70⟩
 ·cases h;exact⟨_,is71⟩
 ·cases h;exact⟨_,is72⟩
 ·cases h;exact⟨_,is73⟩
 ·simp at h
def cp5x:FuncId→Option CF
 | 85=>some cf85
 | 86=>some cf86
 | 87=>some cf87
 | 88=>some cf88
 | 89=>some cf89
 | 90=>some cf90
 | 92=>some cf92
 | 93=>some cf93
 | 94=>some cf94
 | 95=>some cf95
 | _=>none
theorem compiled5x(f:FuncId)(cf:CF)(h:cp5x f=some cf):∃t,compFunc Tryz.prog t f=some cf:=by
 unfold cp5x at h
 split at h
 ·cases h;exact⟨_,is85⟩
 ·cases h;exact⟨_,is86⟩
 ·cases h;exact⟨_,is87⟩
 ·cases h;exact⟨_,is88⟩
 ·cases h;exact⟨_,is89⟩
 ·cases h;exact⟨_,is90⟩
 ·cases h;exact⟨_,is92⟩
 ·cases h;exact⟨_,is93⟩
 ·cases h;exact⟨_,is94⟩
 ·cases h;exact⟨_,is95⟩
 ·simp at h
def cp6x:FuncId→Option CF
 | 96=>some cf96
 | 97=>some cf97
 | 98=>some cf98
 | 106=>some cf106
 | 107=>some cf107
 | 108=>some cf108
 | 109=>some cf109
 | 110=>some cf110
 | 111=>some cf111
 | _=>none
theorem compiled6x(f:FuncId)(cf:CF)(h:cp6x f=some cf):∃t,compFunc Tryz.prog t f=some cf:=by
 unfold cp6x at h
 split at h
 ·cases h;exact⟨_,is96⟩
 ·cases h;exact⟨_,is97⟩
 ·cases h;exact⟨_,is98⟩
 ·cases h;exact⟨_,is106⟩
 ·cases h;exact⟨_,is107⟩
 ·cases h;exact⟨_,is108⟩
 ·cases h;exact⟨_,is109⟩
 ·cases h;exact⟨_,is110⟩
 ·cases h;exact⟨_,is111⟩
 ·simp at h
def cp7x:FuncId→Option CF
 | 112=>some cf112
 | 113=>some cf113
 | 114=>some cf114
 | 115=>some cf115
 | 116=>some cf116
 | 117=>some cf117
 | 118=>some cf118
 | 119=>some cf119
 | 120=>some cf120
 | _=>none
theorem compiled7x(f:FuncId)(cf:CF)(h:cp7x f=some cf):∃t,compFunc Tryz.prog t f=some cf:=by
 unfold cp7x at h
 split at h
 ·cases h;exact⟨_,is112⟩
 ·cases h;exact⟨_,is113⟩
 ·cases h;exact⟨_,is114⟩
 ·cases h;exact⟨_,is115⟩
 ·cases h;exact⟨_,is116⟩
 ·cases h;exact⟨_,is117⟩
 ·cases h;exact⟨_,is118⟩
 ·cases h;exact⟨_,is119⟩
 ·cases h;exact⟨_,is120⟩
 ·simp at h
def cp8x:FuncId→Option CF
 | 130=>some cf130
 | 131=>some cf131
 | 132=>some cf132
 | 133=>some cf133
 | 134=>some cf134
 | 135=>some cf135
 | 136=>some cf136
 | 137=>some cf137
 | 138=>some cf138
 | 139=>some cf139
 | 140=>some cf140
 | 141=>some cf141
 | 142=>some cf142
 | _=>none
theorem compiled8x(f:FuncId)(cf:CF)(h:cp8x f=some cf):∃t,compFunc Tryz.prog t f=some cf:=by
 unfold cp8x at h
 split at h
 ·cases h;exact⟨_,is130⟩
 ·cases h;exact⟨_,is131⟩
 ·cases h;exact⟨_,is132⟩
 ·cases h;exact⟨_,is133⟩
 ·cases h;exact⟨_,is134⟩
 ·cases h;exact⟨_,is135⟩
 ·cases h;exact⟨_,is136⟩
 ·cases h;exact⟨_,is137⟩
 ·cases h;exact⟨_,is138⟩
 ·cases h;exact⟨_,is139⟩
 ·cases h;exact⟨_,is140⟩
 ·cases h;exact⟨_,is141⟩
 ·cases h;exact⟨_,is142⟩
 ·simp at h
def cp9x:FuncId→Option CF
 | 153=>some cf153
 | 154=>some cf154
 | 155=>some cf155
 | 156=>some cf156
 | 157=>some cf157
 | 158=>some cf158
 | 159=>some cf159
 | _=>none
theorem compiled9x(f:FuncId)(cf:CF)(h:cp9x f=some cf):∃t,compFunc Tryz.prog t f=some cf:=by
 unfold cp9x at h
 split at h
 ·cases h;exact⟨_,is153⟩
 ·cases h;exact⟨_,is154⟩
 ·cases h;exact⟨_,is155⟩
 ·cases h;exact⟨_,is156⟩
 ·cases h;exact⟨_,is157⟩
 ·cases h;exact⟨_,is158⟩
 ·cases h;exact⟨_,is159⟩
 ·simp at h
def cp10x:FuncId→Option CF
 | 160=>some cf160
 | 161=>some cf161
 | 162=>some cf162
 | 163=>some cf163
 | 164=>some cf164
 | 165=>some cf165
 | 166=>some cf166
 | 167=>some cf167
 | 175=>some cf175
 | _=>none
theorem compiled10x(f:FuncId)(cf:CF)(h:cp10x f=some cf):∃t,compFunc Tryz.prog t f=some cf:=by
 unfold cp10x at h
 split at h
 ·cases h;exact⟨_,is160⟩
 ·cases h;exact⟨_,is161⟩
 ·cases h;exact⟨_,is162⟩
 ·cases h;exact⟨_,is163⟩
 ·cases h;exact⟨_,is164⟩
 ·cases h;exact⟨_,is165⟩
 ·cases h;exact⟨_,is166⟩
 ·cases h;exact⟨_,is167⟩
 ·cases h;exact⟨_,is175⟩
 ·simp at h
def cp11x:FuncId→Option CF
 | 176=>some cf176
 | 177=>some cf177
 | 178=>some cf178
 | 179=>some cf179
 | 180=>some cf180
 | 181=>some cf181
 | 182=>some cf182
 | 183=>some cf183
 | 184=>some cf184
 | 185=>some cf185
 | 186=>some cf186
 | 187=>some cf187
 | 188=>some cf188
 | 189=>some cf189
 | _=>none
theorem compiled11x(f:FuncId)(cf:CF)(h:cp11x f=some cf):∃t,compFunc Tryz.prog t f=some cf:=by
 unfold cp11x at h
 split at h
 ·cases h;exact⟨_,is176⟩
 ·cases h;exact⟨_,is177⟩
 ·cases h;exact⟨_,is178⟩
 ·cases h;exact⟨_,is179⟩
 ·cases h;exact⟨_,is180⟩
 ·cases h;exact⟨_,is181⟩
 ·cases h;exact⟨_,is182⟩
 ·cases h;exact⟨_,is183⟩
 ·cases h;exact⟨_,is184⟩
 ·cases h;exact⟨_,is185⟩
 ·cases h;exact⟨_,is186⟩
 ·cases h;exact⟨_,is187⟩
 ·cases h;exact⟨_,is188⟩
 ·cases h;exact⟨_,is189⟩
 ·simp at h
def cp12x:FuncId→Option CF
 | 195=>some cf195
 | 196=>some cf196
 | 197=>some cf197
 | 198=>some cf198
 | 199=>some cf199
 | 200=>some cf200
 | 201=>some cf201
 | 203=>some cf203
 | 204=>some cf204
 | 205=>some cf205
 | 206=>some cf206
 | 207=>some cf207
 | _=>none
theorem compiled12x(f:FuncId)(cf:CF)(h:cp12x f=some cf):∃t,compFunc Tryz.prog t f=some cf:=by
 unfold cp12x at h
 split at h
 ·cases h;exact⟨_,is195⟩
 ·cases h;exact⟨_,is196⟩
 ·cases h;exact⟨_,is197⟩
 ·cases h;exact⟨_,is198⟩
 ·cases h;exact⟨_,is199⟩
 ·cases h;exact⟨_,is200⟩
 ·cases h;exact⟨_,is201⟩
 ·cases h;exact⟨_,is203⟩
 ·cases h;exact⟨_,is204⟩
 ·cases h;exact⟨_,is205⟩
 ·cases h;exact⟨_,is206⟩
 ·cases h;exact⟨_,is207⟩
 ·simp at h
def cp13x:FuncId→Option CF
 | 208=>some cf208
 | 209=>some cf209
 | 210=>some cf210
 | 211=>some cf211
 | 212=>some cf212
 | 213=>some cf213
 | 214=>some cf214
 | 215=>some cf215
 | 216=>some cf216
 | 217=>some cf217
 | 218=>some cf218
 | 219=>some cf219
 | 221=>some cf221
 | 222=>some cf222
 | 223=>some cf223
 | _=>none
theorem compiled13x(f:FuncId)(cf:CF)(h:cp13x f=some cf):∃t,compFunc Tryz.prog t f=some cf:=by
 unfold cp13x at h
 split at h
 ·cases h;exact⟨_,is208⟩
 ·cases h;exact⟨_,is209⟩
 ·cases h;exact⟨_,is210⟩
 ·cases h;exact⟨_,is211⟩
 ·cases h;exact⟨_,is212⟩
 ·cases h;exact⟨_,is213⟩
 ·cases h;exact⟨_,is214⟩
 ·cases h;exact⟨_,is215⟩
 ·cases h;exact⟨_,is216⟩
 ·cases h;exact⟨_,is217⟩
 ·cases h;exact⟨_,is218⟩
 ·cases h;exact⟨_,is219⟩
 ·cases h;exact⟨_,is221⟩
 ·cases h;exact⟨_,is222⟩
 ·cases h;exact⟨_,is223⟩
 ·simp at h
def cp14x:FuncId→Option CF
 | 224=>some cf224
 | 226=>some cf226
 | 227=>some cf227
 | 229=>some cf229
 | 230=>some cf230
 | 231=>some cf231
 | 233=>some cf233
 | 234=>some cf234
 | 236=>some cf236
 | 237=>some cf237
 | 238=>some cf238
 | 239=>some cf239
 | _=>none
theorem compiled14x(f:FuncId)(cf:CF)(h:cp14x f=some cf):∃t,compFunc Tryz.prog t f=some cf:=by
 unfold cp14x at h
 split at h
 ·cases h;exact⟨_,is224⟩
 ·cases h;exact⟨_,is226⟩
 ·cases h;exact⟨_,is227⟩
 ·cases h;exact⟨_,is229⟩
 ·cases h;exact⟨_,is230⟩
 ·cases h;exact⟨_,is231⟩
 ·cases h;exact⟨_,is233⟩
 ·cases h;exact⟨_,is234⟩
 ·cases h;exact⟨_,is236⟩
 ·cases h;exact⟨_,is237⟩
 ·cases h;exact⟨_,is238⟩
 ·cases h;exact⟨_,is239⟩
 ·simp at h
def cp15x:FuncId→Option CF
 | 240=>some cf240
 | 242=>some cf242
 | 243=>some cf243
 | 244=>some cf244
 | 245=>some cf245
 | 246=>some cf246
 | 247=>some cf247
 | _=>none
theorem compiled15x(f:FuncId)(cf:CF)(h:cp15x f=some cf):∃t,compFunc Tryz.prog t f=some cf:=by
 unfold cp15x at h
 split at h
 ·cases h;exact⟨_,is240⟩
 ·cases h;exact⟨_,is242⟩
 ·cases h;exact⟨_,is243⟩
 ·cases h;exact⟨_,is244⟩
 ·cases h;exact⟨_,is245⟩
 ·cases h;exact⟨_,is246⟩
 ·cases h;exact⟨_,is247⟩
 ·simp at h
def cp(f:FuncId):Option CF:=match f/16 with
 | 0=>cp0x f
 | 1=>cp1x f
 | 2=>cp2x f
 | 3=>cp3x f
 | 4=>cp4x f
 | 5=>cp5x f
 | 6=>cp6x f
 | 7=>cp7x f
 | 8=>cp8x f
 | 9=>cp9x f
 | 10=>cp10x f
 | 11=>cp11x f
 | 12=>cp12x f
 | 13=>cp13x f
 | 14=>cp14x f
 | 15=>cp15x f
 | _=>none
theorem mixed:Tryz.prog.follows .mixedOrders=true:=by kernel_rfl
theorem st10{lo:Nat}{H:Heap}{R:Value→Heap→Prop}{a0 a1:Value}(h:wpS cp lo bd10 (bodyQ cf10 R) [a0,a1,undef,undef,undef,undef] H):Ev cp lo 10 [a0,a1] H R:=ev_of_wp (cf:=cf10) rfl rfl rfl h
theorem st11{lo:Nat}{H:Heap}{R:Value→Heap→Prop}{a0 a1:Value}(h:wpS cp lo bd11 (bodyQ cf11 R) [a0,a1,undef,undef,undef,undef] H):Ev cp lo 11 [a0,a1] H R:=ev_of_wp (cf:=cf11) rfl rfl rfl h
theorem st12{lo:Nat}{H:Heap}{R:Value→Heap→Prop}{a0:Value}(h:wpS cp lo bd12 (bodyQ cf12 R) [a0,undef,undef,undef,undef,undef] H):Ev cp lo 12 [a0] H R:=ev_of_wp (cf:=cf12) rfl rfl rfl h
theorem st13{lo:Nat}{H:Heap}{R:Value→Heap→Prop}{a0:Value}(h:wpS cp lo bd13 (bodyQ cf13 R) [a0,undef,undef,undef,undef,undef,undef,undef,undef,undef] H):Ev cp lo 13 [a0] H R:=ev_of_wp (cf:=cf13) rfl rfl rfl h
theorem st14{lo:Nat}{H:Heap}{R:Value→Heap→Prop}{a0 a1:Value}(h:wpS cp lo bd14 (bodyQ cf14 R) [a0,a1,undef,undef] H):Ev cp lo 14 [a0,a1] H R:=ev_of_wp (cf:=cf14) rfl rfl rfl h
theorem st24{lo:Nat}{H:Heap}{R:Value→Heap→Prop}{a0 a1 a2:Value}(h:wpS cp lo bd24 (bodyQ cf24 R) [a0,a1,a2,undef,undef,undef,undef,undef,undef,undef,undef,undef,undef,undef,undef,undef,undef] H):Ev cp lo 24 [a0,a1,a2] H R:=ev_of_wp (cf:=cf24) rfl rfl rfl h
theorem st25{lo:Nat}{H:Heap}{R:Value→Heap→Prop}{a0 a1 a2:Value}(h:wpS cp lo bd25 (bodyQ cf25 R) [a0,a1,a2,undef,undef,undef,undef,undef,undef,undef,undef,undef,undef,undef,undef,undef,undef,undef,undef,undef,undef,undef,undef] H):Ev cp lo 25 [a0,a1,a2] H R:=ev_of_wp (cf:=cf25) rfl rfl rfl h
theorem st26{lo:Nat}{H:Heap}{R:Value→Heap→Prop}(h:wpS cp lo bd26 (bodyQ cf26 R) [undef,undef,undef,undef,undef,undef,undef,undef,undef,undef,undef,undef,undef] H):Ev cp lo 26 [] H R:=ev_of_wp (cf:=cf26) rfl rfl rfl h
theorem st27{lo:Nat}{H:Heap}{R:Value→Heap→Prop}{a0 a1:Value}(h:wpS cp lo bd27 (bodyQ cf27 R) [a0,a1,undef,undef,undef,undef,undef,undef,undef,undef,undef,undef,undef,undef,undef,undef,undef,undef,undef,undef] H):Ev cp lo 27 [a0,a1] H R:=ev_of_wp (cf:=cf27) rfl rfl rfl h
theorem st28{lo:Nat}{H:Heap}{R:Value→Heap→Prop}{a0 a1:Value}(h:wpS cp lo bd28 (bodyQ cf28 R) [a0,a1,undef,undef,undef,undef,undef,undef,undef,undef,undef,undef,undef,undef,undef,undef,undef,undef,undef,undef] H):Ev cp lo 28 [a0,a1] H R:=ev_of_wp (cf:=cf28) rfl rfl rfl h
theorem st29{lo:Nat}{H:Heap}{R:Value→Heap→Prop}{a0 a1:Value}(h:wpS cp lo bd29 (bodyQ cf29 R) [a0,a1,undef] H):Ev cp lo 29 [a0,a1] H R:=ev_of_wp (cf:=cf29) rfl rfl rfl h
end Go.Proofs.YtgiojnobcjnibaaGreatDoor
