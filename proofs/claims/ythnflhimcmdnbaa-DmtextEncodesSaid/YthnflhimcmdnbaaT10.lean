/- The functions of this seat as the abstract machine has them (printed by a program), and that its compiler makes them of the given program. -/
import Derived.Test.YthnflhimcmdnbaaT8
import Derived.Test.YthnflhimcmdnbaaProg
import Derived.KernelRfl
set_option linter.unusedVariables false
set_option linter.unusedSimpArgs false
set_option linter.unusedSectionVars false
namespace Go.Proofs.Ythnflhimcmdnbaa
open Go.Abs
namespace K
def x(n:Nat):E:=.var n
def i(n:Int):E:=.cst (.int .i64 n)
def c(a b:E):E:=.cons a b
def c1(a:E):E:=.cons a .nil
def c2(a b:E):E:=.cons a (.cons b .nil)
def c3(a b c:E):E:=.cons a (.cons b (.cons c .nil))
def n1(o:LOp)(a:E):E:=.node o (.cons a .nil)
def n2(o:LOp)(a b:E):E:=.node o (.cons a (.cons b .nil))
def b(o:BinOp)(a b:E):E:=.node (.bin o) (.cons a (.cons b .nil))
def ld(a:E):E:=.node (.ld 1 false) (.cons a .nil)
def fa(n:Nat)(a:E):E:=.node (.fAddr n) (.cons a .nil)
def ix(n:Nat)(a:E):E:=.node (.ext n) (.cons a .nil)
def p(a b c:E):E:=.pick a b c
def h(d:Nat)(o:HOp)(a:E):Stm:=.hv [] [] [] (some d) o a
def cl(d f:Nat)(a:E):Stm:=.hv [] [] [] (some d) (.call false) (.cons (.cst (.func (.func f) #[] #[])) a)
def s(l:List (Nat×E)):Stm:=.sets l []
def q(a b:Stm):Stm:=.seq a b
end K
set_option linter.defProp false in
def kB:=And.intro @K.x.eq_1 (And.intro @K.i.eq_1 (And.intro @K.c.eq_1 (And.intro @K.c1.eq_1 (And.intro @K.c2.eq_1 (And.intro @K.c3.eq_1 (And.intro @K.n1.eq_1 (And.intro @K.n2.eq_1 (And.intro @K.b.eq_1 (And.intro @K.ld.eq_1 (And.intro @K.fa.eq_1 (And.intro @K.ix.eq_1 (And.intro @K.p.eq_1 (And.intro @K.h.eq_1 (And.intro @K.cl.eq_1 (And.intro @K.s.eq_1 @K.q.eq_1)))))))))))))))
section
open K
def bd2:Stm:=
 .hv [] [] [] none (.call false) (c1 (.cst (.func (.func 1) #[] #[])))
def cf2:CF:=⟨0,0,[],bd2,.plain⟩
def tr2:List Nat:=[]
def bd3:Stm:=
 q (s [(1,.cst (.bool false))]) (q (.cond (b .gtr (n1 .len (x 0)) (i 40)) (q (q (cl 8 9 .nil) (s [(1,x 8)])) .ret) .skip) (q (q (cl 9 10 (c1 (x 0))) (s [(3,ix
 1 (x 9)),(2,ix 0 (x 9))])) (q (q (cl 10 11 (c1 (x 0))) (s [(5,ix 1 (x 10)),(4,ix 0 (x 10))])) (q (q (cl 11 12 (c1 (x 0))) (s [(7,ix 1 (x 11)),(6,ix 0
 (x 11))])) (q (q (cl 12 13 (c2 (x 2) (x 4))) (q (.hv [(13,p (p (p (x 12) (b .eql (x 3) (x 5)) (.cst (.bool false))) (b .eql (x 6) (n1 .len (x 4))) (.cst
 (.bool false))) (b .eql (x 7) (x 5)) (.cst (.bool false)))] [] [(p (p (p (x 12) (b .eql (x 3) (x 5)) (.cst (.bool false))) (b .eql (x 6) (n1 .len (x 4)))
 (.cst (.bool false))) (b .eql (x 7) (x 5)) (.cst (.bool false)),true)] (some 14) (.call false) (c1 (.cst (.func (.func 9) #[] #[])))) (s [(1,p (x 13) (x 14)
 (.cst (.bool false)))]))) .ret)))))
def cf3:CF:=⟨1,15,[(.var 1)],bd3,.plain⟩
def tr3:List Nat:=[0,2,3,4,5,6,7,8,12,15,20,25,30,47,48]
def bd4:Stm:=
 q (s [(2,.cst (.bool false))]) (q (.cond (p (b .gtr (n1 .len (x 0)) (i 300)) (.cst (.bool true)) (p (b .gtr (x 1) (i 600)) (b .leq (x 1) (i 8192)) (.cst (.bool
 false)))) (q (q (cl 7 9 .nil) (s [(2,x 7)])) .ret) .skip) (q (q (cl 8 14 (c2 (x 0) (x 1))) (s [(4,ix 1 (x 8)),(3,ix 0 (x 8))])) (q (q (cl 9 15 (c2 (x 0)
 (x 1))) (s [(6,ix 1 (x 9)),(5,ix 0 (x 9))])) (q (q (cl 10 13 (c2 (x 3) (x 5))) (q (.hv [(11,p (x 10) (b .eql (x 4) (x 6)) (.cst (.bool false)))] [] [(p (x
 10) (b .eql (x 4) (x 6)) (.cst (.bool false)),true)] (some 12) (.call false) (c1 (.cst (.func (.func 9) #[] #[])))) (s [(2,p (x 11) (x 12) (.cst (.bool
 false)))]))) .ret))))
def cf4:CF:=⟨2,13,[(.var 2)],bd4,.plain⟩
def tr4:List Nat:=[0,1,4,5,6,7,8,20,24,30,35,41,42]
def bd5:Stm:=
 q (s [(2,.cst (.bool false))]) (q (.cond (p (p (b .gtr (n1 .len (x 0)) (i 300)) (.cst (.bool true)) (b .lss (x 1) (i 0))) (.cst (.bool true)) (b .gtr (x 1) (i
 50))) (q (q (cl 14 9 .nil) (s [(2,x 14)])) .ret) .skip) (q (q (cl 15 10 (c1 (x 0))) (s [(4,ix 1 (x 15)),(3,ix 0 (x 15))])) (q (q (cl 16 12 (c1 (x 0))) (s
 [(6,ix 1 (x 16)),(5,ix 0 (x 16))])) (q (.cond (p (p (b .neq (x 4) (i 0)) (.cst (.bool true)) (b .neq (x 6) (i 0))) (.cst (.bool true)) (b .neq (x 5) (n1
 .len (x 3)))) (q (s [(2,.cst (.bool false))]) .ret) .skip) (q (q (cl 17 16 (c1 (x 3))) (s [(8,ix 1 (x 17)),(7,ix 0 (x 17))])) (q (q (cl 18 14 (c2 (x 3) (b
 .add (n1 .len (x 3)) (x 1)))) (s [(10,ix 1 (x 18)),(9,ix 0 (x 18))])) (q (q (cl 19 16 (c1 (x 9))) (s [(12,ix 1 (x 19)),(11,ix 0 (x 19))])) (q (q (.hv
 [(20,p (p (p (b .neq (x 8) (i 0)) (.cst (.bool true)) (b .neq (x 10) (i 0))) (.cst (.bool true)) (b .neq (x 12) (i 0))) (.cst (.bool true)) (b .neq (n1 .len
 (x 9)) (b .add (n1 .len (x 3)) (x 1))))] [] [(p (p (p (b .neq (x 8) (i 0)) (.cst (.bool true)) (b .neq (x 10) (i 0))) (.cst (.bool true)) (b .neq (x 12) (i
 0))) (.cst (.bool true)) (b .neq (n1 .len (x 9)) (b .add (n1 .len (x 3)) (x 1))),false)] (some 21) (.call false) (c3 (.cst (.func (.func 13) #[] #[])) (n2
 (.sl 1 false true false) (x 9) (n1 .len (x 3))) (x 3))) (.cond (p (x 20) (.cst (.bool true)) (n1 (.un .not) (x 21))) (q (s [(2,.cst (.bool false))]) .ret)
 .skip)) (q (s [(13,p (p (p (p (b .leq (n1 .len (x 0)) (i 249)) (b .gtr (n1 .len (x 0)) (i 0)) (.cst (.bool false))) (b .leq (x 5) (b .add (n1 .len (x 0)) (i
 2))) (.cst (.bool false))) (.cst (.bool true)) (p (b .eql (n1 .len (x 0)) (i 0)) (b .eql (x 5) (i 0)) (.cst (.bool false)))) (.cst (.bool true)) (p (b .gtr
 (n1 .len (x 0)) (i 249)) (b .leq (x 5) (b .add (n1 .len (x 0)) (i 4))) (.cst (.bool false))))]) (q (q (.hv [(22,p (p (b .eql (n1 .b2s (x 7)) (n1 .b2s (x 0)))
 (b .eql (n1 .b2s (x 11)) (n1 .b2s (x 0))) (.cst (.bool false))) (x 13) (.cst (.bool false)))] [] [(p (p (b .eql (n1 .b2s (x 7)) (n1 .b2s (x 0))) (b .eql (n1
 .b2s (x 11)) (n1 .b2s (x 0))) (.cst (.bool false))) (x 13) (.cst (.bool false)),true)] (some 23) (.call false) (c1 (.cst (.func (.func 9) #[] #[])))) (s [(2,
 p (x 22) (x 23) (.cst (.bool false)))])) .ret))))))))))
def cf5:CF:=⟨2,24,[(.var 2)],bd5,.plain⟩
def tr5:List Nat:=[0,1,4,5,6,7,8,9,10,11,12,13,14,15,27,30,35,52,61,66,88,94,148,149]
def bd6:Stm:=
 q (s [(1,.cst (.bool false))]) (q (.cond (b .gtr (n1 .len (x 0)) (i 250)) (q (q (cl 8 9 .nil) (s [(1,x 8)])) .ret) .skip) (q (q (cl 9 16 (c1 (x 0))) (s [(3,
 ix 1 (x 9)),(2,ix 0 (x 9))])) (q (.cond (b .neq (x 3) (i 0)) (q (q (.hv [(10,b .eql (n1 .len (x 2)) (i 0))] [] [(b .eql (n1 .len (x 2)) (i 0),true)] (some
 11) (.call false) (c1 (.cst (.func (.func 9) #[] #[])))) (s [(1,p (x 10) (x 11) (.cst (.bool false)))])) .ret) .skip) (q (q (cl 12 12 (c1 (x 2))) (s [(5,ix
 1 (x 12)),(4,ix 0 (x 12))])) (q (q (cl 13 10 (c1 (x 2))) (s [(7,ix 1 (x 13)),(6,ix 0 (x 13))])) (q (q (.hv [(14,p (p (p (b .eql (x 5) (i 0)) (b .eql (x
 7) (i 0)) (.cst (.bool false))) (b .eql (x 4) (n1 .len (x 6))) (.cst (.bool false))) (b .leq (x 4) (n1 .len (x 0))) (.cst (.bool false)))] [] [(p (p (p (b
 .eql (x 5) (i 0)) (b .eql (x 7) (i 0)) (.cst (.bool false))) (b .eql (x 4) (n1 .len (x 6))) (.cst (.bool false))) (b .leq (x 4) (n1 .len (x 0))) (.cst (.bool
 false)),true)] (some 15) (.call false) (c1 (.cst (.func (.func 9) #[] #[])))) (s [(1,p (x 14) (x 15) (.cst (.bool false)))])) .ret))))))
def cf6:CF:=⟨1,16,[(.var 1)],bd6,.plain⟩
def tr6:List Nat:=[0,2,3,4,5,6,7,8,12,15,23,24,28,33,54,55]
def bd7:Stm:=
 q (s [(2,.cst (.bool false))]) (q (.cond (p (b .gtr (n1 .len (x 0)) (i 150)) (.cst (.bool true)) (b .gtr (n1 .len (x 1)) (i 150))) (q (q (cl 9 9 .nil) (s [(2,
 x 9)])) .ret) .skip) (q (q (cl 10 12 (c1 (x 0))) (s [(4,ix 1 (x 10)),(3,ix 0 (x 10))])) (q (q (cl 11 12 (c1 (x 1))) (s [(6,ix 1 (x 11)),(5,ix 0 (x
 11))])) (q (q (h 12 (.bSl [.int .u8 0] 0 []) .nil) (q (h 13 (.app 1 [.int .u8 0]) (c2 (x 12) (x 0))) (q (h 14 (.app 1 [.int .u8 0]) (c2 (x 13) (x 1))) (q (cl
 15 12 (c1 (x 14))) (s [(8,ix 1 (x 15)),(7,ix 0 (x 15))]))))) (q (q (.hv [(16,p (p (p (b .eql (x 4) (i 0)) (b .eql (x 6) (i 0)) (.cst (.bool false))) (b
 .eql (x 8) (i 0)) (.cst (.bool false))) (b .leq (x 7) (b .add (x 3) (x 5))) (.cst (.bool false)))] [] [(p (p (p (b .eql (x 4) (i 0)) (b .eql (x 6) (i 0))
 (.cst (.bool false))) (b .eql (x 8) (i 0)) (.cst (.bool false))) (b .leq (x 7) (b .add (x 3) (x 5))) (.cst (.bool false)),true)] (some 17) (.call false) (c1
 (.cst (.func (.func 9) #[] #[])))) (s [(2,p (x 16) (x 17) (.cst (.bool false)))])) .ret)))))
def cf7:CF:=⟨2,18,[(.var 2)],bd7,.plain⟩
def tr7:List Nat:=[0,1,4,5,6,7,8,9,10,19,22,27,31,33,35,36,56,57]
def bd8:Stm:=
 q (s [(1,.cst (.bool false))]) (q (s [(2,b .add (i 1) (b .and (x 0) (i 15)))]) (q (q (h 12 (.mkSl [.int .u8 0]) (c2 (b .add (i 4096) (x 2)) (b .add (i 4096)
 (x 2)))) (s [(3,x 12)])) (q (q (cl 13 10 (c1 (x 3))) (s [(5,ix 1 (x 13)),(4,ix 0 (x 13))])) (q (q (cl 14 12 (c1 (x 3))) (s [(7,ix 1 (x 14)),(6,ix 0 (x
 14))])) (q (q (h 15 (.mkSl [.int .i64 0]) (c2 (b .add (i 8192) (x 2)) (b .add (i 8192) (x 2)))) (q (cl 16 16 (c1 (x 15))) (s [(9,ix 1 (x 16)),(8,ix 0 (x
 16))]))) (q (q (cl 17 14 (c2 (.cst (.slice none 0 0)) (b .add (i 8192) (x 2)))) (s [(11,ix 1 (x 17)),(10,ix 0 (x 17))])) (q (q (.hv [(18,p (p (p (p (b
 .eql (x 5) (i 4)) (b .eql (x 7) (i 4)) (.cst (.bool false))) (b .eql (x 9) (i 4)) (.cst (.bool false))) (b .eql (x 11) (i 4)) (.cst (.bool false))) (b .eql (b
 .add (b .add (b .add (n1 .len (x 4)) (n1 .len (x 8))) (n1 .len (x 10))) (x 6)) (i 0)) (.cst (.bool false)))] [] [(p (p (p (p (b .eql (x 5) (i 4)) (b .eql (x
 7) (i 4)) (.cst (.bool false))) (b .eql (x 9) (i 4)) (.cst (.bool false))) (b .eql (x 11) (i 4)) (.cst (.bool false))) (b .eql (b .add (b .add (b .add (n1
 .len (x 4)) (n1 .len (x 8))) (n1 .len (x 10))) (x 6)) (i 0)) (.cst (.bool false)),true)] (some 19) (.call false) (c1 (.cst (.func (.func 9) #[] #[])))) (s
 [(1,p (x 18) (x 19) (.cst (.bool false)))])) .ret)))))))
def cf8:CF:=⟨1,20,[(.var 1)],bd8,.plain⟩
def tr8:List Nat:=[0,2,3,4,5,6,7,8,9,10,11,12,18,21,26,32,33,39,69,70]
def bd9:Stm:=
 q (s [(0,.cst (.bool false))]) (q (q (h 11 (.bSl [.int .u8 0] 6 [0,1,2,3,4,5]) (c (.cst (.int .u8 49)) (c (.cst (.int .u8 50)) (c (.cst (.int .u8 51)) (c3
 (.cst (.int .u8 52)) (.cst (.int .u8 53)) (.cst (.int .u8 54))))))) (q (h 12 .frz (c1 (x 11))) (q (cl 13 10 (c1 (x 12))) (s [(2,ix 1 (x 13)),(1,ix 0 (x
 13))])))) (q (q (h 14 (.bSl [.int .u8 0] 9 [0,1,2,3,4,5,6,7,8]) (c (.cst (.int .u8 65)) (c (.cst (.int .u8 73)) (c (.cst (.int .u8 77)) (c (.cst (.int
 .u8 65)) (c (.cst (.int .u8 73)) (c (.cst (.int .u8 77)) (c3 (.cst (.int .u8 65)) (.cst (.int .u8 73)) (.cst (.int .u8 77)))))))))) (q (h 15 .frz (c1 (x 14)))
 (q (cl 16 10 (c1 (x 15))) (s [(4,ix 1 (x 16)),(3,ix 0 (x 16))])))) (q (q (h 17 (.bSl [.int .i64 0] 6 [0,1,2,3,4,5]) (c (i 230) (c (i 91) (c (i 11) (c3
 (i 254) (i 66) (i 129)))))) (q (cl 18 16 (c1 (x 17))) (s [(6,ix 1 (x 18)),(5,ix 0 (x 18))]))) (q (q (h 19 (.bSl [.int .i64 0] 1 [0]) (c1 (i 66))) (q (cl 20
 14 (c2 (x 19) (i 3))) (s [(8,ix 1 (x 20)),(7,ix 0 (x 20))]))) (q (q (h 21 (.bSl [.int .u8 0] 1 [0]) (c1 (.cst (.int .u8 65)))) (q (h 22 .frz (c1 (x 21)))
 (q (cl 23 12 (c1 (x 22))) (s [(10,ix 1 (x 23)),(9,ix 0 (x 23))])))) (q (.cond (p (p (p (p (b .neq (x 2) (i 0)) (.cst (.bool true)) (b .neq (x 4) (i 0)))
 (.cst (.bool true)) (b .neq (x 6) (i 0))) (.cst (.bool true)) (b .neq (x 8) (i 0))) (.cst (.bool true)) (b .neq (x 10) (i 0))) (q (s [(0,.cst (.bool
 false))]) .ret) .skip) (q (q (.hv [(24,x 1)] [] [] (some 25) (.bSl [.int .i64 0] 3 [0,1,2]) (c3 (i 142) (i 164) (i 186))) (q (cl 26 13 (c2 (x 24) (x 25)))
 (q (.hv [(28,p (x 26) (x 3) (.cst (.tuple #[]))),(27,x 26)] [] [(x 26,true)] (some 29) (.bSl [.int .i64 0] 8 [0,1,2,3,4,5,6,7]) (c (i 230) (c (i
 91) (c (i 11) (c (i 91) (c (i 11) (c3 (i 91) (i 11) (i 254)))))))) (q (.hv [] [] [(x 27,true)] (some 30) (.call false) (c3 (.cst (.func (.func 13) #[] #[]))
 (x 28) (x 29))) (q (.hv [(32,p (p (p (x 27) (x 30) (.cst (.bool false))) (b .eql (n1 .b2s (x 5)) (.cst (.string ⟨ #[65,73,77,65] ⟩))) (.cst (.bool
 false))) (x 7) (.cst (.tuple #[]))),(31,p (p (x 27) (x 30) (.cst (.bool false))) (b .eql (n1 .b2s (x 5)) (.cst (.string ⟨ #[65,73,77,65] ⟩))) (.cst
 (.bool false)))] [] [(p (p (x 27) (x 30) (.cst (.bool false))) (b .eql (n1 .b2s (x 5)) (.cst (.string ⟨ #[65,73,77,65] ⟩))) (.cst (.bool false)),true)]
 (some 33) (.bSl [.int .i64 0] 3 [0,1,2]) (c3 (i 66) (i 129) (i 70))) (q (.hv [] [] [(x 31,true)] (some 34) (.call false) (c3 (.cst (.func (.func 13) #[]
 #[])) (x 32) (x 33))) (s [(0,p (p (x 31) (x 34) (.cst (.bool false))) (b .eql (x 9) (i 1)) (.cst (.bool false)))]))))))) .ret)))))))
def cf9:CF:=⟨0,35,[(.var 0)],bd9,.plain⟩
def tr9:List Nat:=[0,1,2,3,4,5,6,7,8,9,10,12,13,14,18,19,20,24,25,29,30,34,35,36,57,58,59,60,61,62,63,70,71,72,73]
def bd10:Stm:=
 q (s [(2,i 0),(1,.cst (.slice none 0 0))]) (q (.cond (b .gtr (n1 .len (x 0)) (i 4096)) (q (s [(2,i 4),(1,.cst (.slice none 0 0))]) .ret) .skip) (q (q (cl
 3 17 (c1 (x 0))) (q (cl 4 18 (c1 (x 3))) (s [(2,i 0),(1,x 4)]))) .ret))
def cf10:CF:=⟨1,5,[(.var 1),(.var 2)],bd10,.plain⟩
def tr10:List Nat:=[0,2,3,8,9]
def bd11:Stm:=
 q (s [(2,i 0),(1,.cst (.slice none 0 0))]) (q (.cond (b .gtr (n1 .len (x 0)) (i 4096)) (q (s [(2,i 4),(1,.cst (.slice none 0 0))]) .ret) .skip) (q (q (cl
 10 19 (c1 (x 0))) (s [(3,x 10)])) (q (s [(5,.cst (.slice none 0 0)),(4,.cst (.slice none 0 0))]) (q (q (q (.hv [(11,.node (.build [.int .i64 0,.int .i64
 0,.int .i64 0,.int .i64 0,.bool false] []) .nil)] [] [] (some 6) (.alloc [.int .i64 0,.int .i64 0,.int .i64 0,.int .i64 0,.bool false]) .nil) (.hv []
 [] [] none (.st 5) (c2 (x 6) (x 11)))) (.block 0 (.loop (q (.cond (p (b .neq (ld (fa 1 (x 6))) (i 0)) (.cst (.bool true)) (b .lss (ld (fa 0 (x 6))) (n1 .len
 (x 0)))) .skip (.exit 0)) (q (.block 1 (q (q (cl 12 20 (c3 (x 0) (n1 (.ld 5 true) (x 6)) (x 3))) (q (h 7 (.alloc [.int .i64 0,.int .i64 0,.int .i64 0,.int
 .i64 0,.int .i64 0,.int .i64 0,.int .i64 0,.int .i64 0,.bool false]) .nil) (.hv [] [] [] none (.st 9) (c2 (x 7) (x 12))))) (q (.block 2 (.cond (p (b .eql
 (ld (fa 1 (x 6))) (i 0)) (b .eql (ld (fa 0 (x 7))) (i 231)) (.cst (.bool false))) (q (q (.hv [(19,x 4)] [] [] (some 20) (.bSl [.int .i64 0] 1 [0]) (c1 (i
 231))) (q (h 21 (.app 1 [.int .i64 0]) (c2 (x 19) (x 20))) (s [(4,x 21)]))) (q (q (.hv [(22,x 4)] [] [] (some 23) (.call false) (c3 (.cst (.func (.func 21)
 #[] #[])) (ld (fa 1 (x 7))) (b .add (n1 .len (x 4)) (i 1)))) (q (h 24 (.bSl [.int .i64 0] 1 [0]) (c1 (x 23))) (q (h 25 (.app 1 [.int .i64 0]) (c2 (x 22) (x
 24))) (s [(4,x 25)])))) (q (.cond (b .geq (ld (fa 2 (x 7))) (i 0)) (q (.hv [(26,x 4)] [] [] (some 27) (.call false) (c3 (.cst (.func (.func 21) #[] #[]))
 (ld (fa 2 (x 7))) (b .add (n1 .len (x 4)) (i 1)))) (q (h 28 (.bSl [.int .i64 0] 1 [0]) (c1 (x 27))) (q (h 29 (.app 1 [.int .i64 0]) (c2 (x 26) (x 28))) (s
 [(4,x 29)])))) .skip) (q (s [(8,ld (fa 0 (x 6)))]) (.block 3 (.loop (q (.cond (b .lss (x 8) (ld (fa 0 (fa 4 (x 7))))) .skip (.exit 3)) (q (.block 4 (q (.hv
 [(30,x 4)] [] [] (some 31) (.call false) (c3 (.cst (.func (.func 21) #[] #[])) (n1 (.cvt .i64) (ld (n2 (.iAddr 1) (x 0) (x 8)))) (b .add (n1 .len (x 4)) (i
 1)))) (q (h 32 (.bSl [.int .i64 0] 1 [0]) (c1 (x 31))) (q (h 33 (.app 1 [.int .i64 0]) (c2 (x 30) (x 32))) (s [(4,x 33)]))))) (s [(8,b .add (x 8) (i
 1))]))))))))) (.cond (b .eql (ld (fa 1 (x 6))) (i 0)) (q (q (.hv [(34,x 4)] [] [] (some 35) (.bSl [.int .i64 0] 1 [0]) (c1 (ld (fa 0 (x 7))))) (q (h 36 (.app
 1 [.int .i64 0]) (c2 (x 34) (x 35))) (s [(4,x 36)]))) (.cond (b .geq (ld (fa 1 (x 7))) (i 0)) (q (.hv [(37,x 4)] [] [] (some 38) (.bSl [.int .i64 0] 1 [0])
 (c1 (ld (fa 1 (x 7))))) (q (h 39 (.app 1 [.int .i64 0]) (c2 (x 37) (x 38))) (s [(4,x 39)]))) .skip)) (.cond (b .eql (ld (fa 1 (x 6))) (i 4)) (q (q (.hv [(40,
 x 5)] [] [] (some 41) (.bSl [.int .i64 0] 1 [0]) (c1 (ld (fa 0 (x 7))))) (q (h 42 (.app 1 [.int .i64 0]) (c2 (x 40) (x 41))) (s [(5,x 42)]))) (.cond (b .eql
 (ld (fa 0 (x 7))) (i 31)) (q (q (.hv [(43,x 4)] [] [] (some 44) (.call false) (c2 (.cst (.func (.func 22) #[] #[])) (x 5))) (q (h 45 (.app 1 [.int .i64 0])
 (c2 (x 43) (x 44))) (s [(4,x 45)]))) (s [(5,.cst (.slice none 0 0))])) .skip)) (.cond (b .eql (ld (fa 0 (x 7))) (i 254)) (q (.hv [(46,x 4)] [] [] (some 47)
 (.bSl [.int .i64 0] 1 [0]) (c1 (i 254))) (q (h 48 (.app 1 [.int .i64 0]) (c2 (x 46) (x 47))) (s [(4,x 48)]))) (q (q (.hv [(13,x 5)] [] [] (some 14) (.bSl
 [.int .i64 0] 1 [0]) (c1 (ld (fa 0 (x 7))))) (q (h 15 (.app 1 [.int .i64 0]) (c2 (x 13) (x 14))) (s [(5,x 15)]))) (.cond (b .eql (n1 .len (x 5)) (i 3)) (q (s
 [(9,b .add (b .add (b .add (b .mul (i 1600) (ld (n2 (.iAddr 1) (x 5) (i 0)))) (b .mul (i 40) (ld (n2 (.iAddr 1) (x 5) (i 1))))) (ld (n2 (.iAddr 1) (x 5) (i
 2)))) (i 1))]) (q (q (.hv [(16,x 4)] [] [] (some 17) (.bSl [.int .i64 0] 2 [0,1]) (c2 (b .quo (x 9) (i 256)) (b .rem (x 9) (i 256)))) (q (h 18 (.app 1 [.int
 .i64 0]) (c2 (x 16) (x 17))) (s [(4,x 18)]))) (s [(5,.cst (.slice none 0 0))]))) .skip))))))) (.hv [] [] [] none (.st 5) (c2 (x 6) (n1 (.ld 5 true) (fa 4 (x
 7)))))))) (q (s [(49,n1 (.ld 5 true) (x 6))]) (q (h 6 (.alloc [.int .i64 0,.int .i64 0,.int .i64 0,.int .i64 0,.bool false]) .nil) (.hv [] [] [] none
 (.st 5) (c2 (x 6) (x 49)))))))))) (q (s [(2,i 0),(1,x 4)]) .ret)))))
def cf11:CF:=⟨1,50,[(.var 1),(.var 2)],bd11,.plain⟩
def tr11:List Nat:=[0,2,3,4,5,6,7,8,9,10,15,16,30,31,34,35,53,58,59,69,70,71,72,78,79,80,84,90,91,92,102,111,112,113,118,121,122,126,129,130,135,138,139,143,145,146,151,152,153,156]
def bd12:Stm:=
 q (s [(2,i 0),(1,i 0)]) (q (.cond (b .gtr (n1 .len (x 0)) (i 4096)) (q (s [(2,i 4),(1,i 0)]) .ret) .skip) (q (q (cl 3 17 (c1 (x 0))) (s [(2,i 0),(1,ld
 (n2 (.iAddrA 19 1) (n2 (.iAddr 19) (ld (fa 1 (n1 .nilChk (x 3)))) (i 0)) (i 0)))])) .ret))
def cf12:CF:=⟨1,4,[(.var 1),(.var 2)],bd12,.plain⟩
def tr12:List Nat:=[0,2,3,8]
def bd13:Stm:=
 q (s [(2,.cst (.bool false))]) (q (.cond (b .neq (n1 .len (x 0)) (n1 .len (x 1))) (q (s [(2,.cst (.bool false))]) .ret) .skip) (q (q (s [(3,i 0)]) (.block 0
 (.loop (q (.cond (b .lss (x 3) (n1 .len (x 0))) .skip (.exit 0)) (q (.block 1 (.cond (b .neq (ld (n2 (.iAddr 1) (x 0) (x 3))) (ld (n2 (.iAddr 1) (x 1) (x
 3)))) (q (s [(2,.cst (.bool false))]) .ret) .skip)) (s [(3,b .add (x 3) (i 1))])))))) (q (s [(2,.cst (.bool true))]) .ret)))
def cf13:CF:=⟨2,4,[(.var 2)],bd13,.plain⟩
def tr13:List Nat:=[0,1,4,5]
def bd14:Stm:=
 q (s [(3,i 0),(2,.cst (.slice none 0 0))]) (q (q (s [(9,i 0),(8,n1 .len (x 0)),(7,x 0)]) (.block 0 (.loop (q (.cond (b .lss (x 9) (x 8)) .skip (.exit
 0)) (q (.block 1 (q (s [(4,ld (n2 (.iAddr 1) (x 7) (x 9)))]) (.cond (p (b .lss (x 4) (i 0)) (.cst (.bool true)) (b .gtr (x 4) (i 255))) (q (s [(3,i 3),(2,
 .cst (.slice none 0 0))]) .ret) .skip))) (s [(9,b .add (x 9) (i 1))])))))) (q (.cond (b .gtr (x 1) (i 8192)) (q (s [(3,i 4),(2,.cst (.slice none 0 0))])
 .ret) .skip) (q (.cond (b .lss (x 1) (n1 .len (x 0))) (q (s [(3,i 16),(2,.cst (.slice none 0 0))]) .ret) .skip) (q (q (h 10 (.mkSl [.int .i64 0]) (c2 (x 1)
 (x 1))) (s [(5,x 10)])) (q (.hv [] [] [] none (.cpy 1) (c2 (x 5) (x 0))) (q (q (s [(6,n1 .len (x 0))]) (.block 2 (.loop (q (.cond (b .lss (x 6) (x 1)) .skip
 (.exit 2)) (q (.block 3 (q (.hv [] [] [] none (.st 1) (c2 (n2 (.iAddr 1) (x 5) (x 6)) (i 129))) (q (.cond (b .gtr (x 6) (n1 .len (x 0))) (.hv [] [] [] none
 (.st 1) (c2 (n2 (.iAddr 1) (x 5) (x 6)) (b .add (ld (n2 (.iAddr 1) (x 5) (x 6))) (b .add (b .rem (b .mul (i 149) (b .add (x 6) (i 1))) (i 253)) (i 1)))))
 .skip) (.cond (b .gtr (ld (n2 (.iAddr 1) (x 5) (x 6))) (i 254)) (.hv [] [] [] none (.st 1) (c2 (n2 (.iAddr 1) (x 5) (x 6)) (b .sub (ld (n2 (.iAddr 1) (x 5) (x
 6))) (i 254)))) .skip)))) (s [(6,b .add (x 6) (i 1))])))))) (q (s [(3,i 0),(2,x 5)]) .ret)))))))
def cf14:CF:=⟨2,11,[(.var 2),(.var 3)],bd14,.plain⟩
def tr14:List Nat:=[0,1,4,5,7,8,9,10,11,12,30]
def bd15:Stm:=
 q (s [(3,i 0),(2,.cst (.slice none 0 0))]) (q (q (cl 7 23 (c1 (x 0))) (.cond (n1 (.un .not) (x 7)) (q (s [(3,i 3),(2,.cst (.slice none 0 0))]) .ret)
 .skip)) (q (.cond (b .gtr (x 1) (i 8192)) (q (s [(3,i 4),(2,.cst (.slice none 0 0))]) .ret) .skip) (q (.cond (b .lss (x 1) (n1 .len (x 0))) (q (s [(3,i
 16),(2,.cst (.slice none 0 0))]) .ret) .skip) (q (s [(4,.cst (.slice none 0 0))]) (q (q (h 8 (.app 1 [.int .i64 0]) (c2 (x 4) (x 0))) (s [(4,x 8)])) (q (q
 (s [(5,b .add (n1 .len (x 0)) (i 1))]) (.block 0 (.loop (q (.cond (b .leq (x 5) (x 1)) .skip (.exit 0)) (q (.block 1 (q (s [(6,i 129)]) (q (.cond (b .gtr (x
 5) (b .add (n1 .len (x 0)) (i 1))) (s [(6,b .add (b .add (x 6) (b .rem (b .mul (i 149) (x 5)) (i 253))) (i 1))]) .skip) (q (.cond (b .gtr (x 6) (i 254)) (s
 [(6,b .sub (x 6) (i 254))]) .skip) (q (.hv [(9,x 4)] [] [] (some 10) (.bSl [.int .i64 0] 1 [0]) (c1 (x 6))) (q (h 11 (.app 1 [.int .i64 0]) (c2 (x 9) (x
 10))) (s [(4,x 11)]))))))) (s [(5,b .add (x 5) (i 1))])))))) (q (s [(3,i 0),(2,x 4)]) .ret)))))))
def cf15:CF:=⟨2,12,[(.var 2),(.var 3)],bd15,.plain⟩
def tr15:List Nat:=[0,1,4,5,6,7,8,10,20,44,46,47]
def bd16:Stm:=
 q (s [(2,i 0),(1,.cst (.slice none 0 0))]) (q (q (s [(9,i 0),(8,n1 .len (x 0)),(7,x 0)]) (.block 0 (.loop (q (.cond (b .lss (x 9) (x 8)) .skip (.exit
 0)) (q (.block 1 (q (s [(3,ld (n2 (.iAddr 1) (x 7) (x 9)))]) (.cond (p (b .lss (x 3) (i 0)) (.cst (.bool true)) (b .gtr (x 3) (i 255))) (q (s [(2,i 3),(1,
 .cst (.slice none 0 0))]) .ret) .skip))) (s [(9,b .add (x 9) (i 1))])))))) (q (.cond (b .gtr (n1 .len (x 0)) (i 8192)) (q (s [(2,i 4),(1,.cst (.slice none
 0 0))]) .ret) .skip) (q (q (h 10 .box (c1 (n1 (.build [.slice none 0 0,.int .i64 0,.slice none 0 0] [(0,1)]) (x 0)))) (s [(4,x 10)])) (q (.block 2 (.loop
 (q (.cond (b .lss (ld (fa 1 (n1 .nilChk (x 4)))) (n1 .len (x 0))) .skip (.exit 2)) (.block 3 (q (s [(5,ld (n2 (.iAddr 1) (x 0) (ld (fa 1 (n1 .nilChk (x
 4))))))]) (q (.hv [] [] [] none (.st 1) (c2 (fa 1 (n1 .nilChk (x 4))) (b .add (ld (fa 1 (n1 .nilChk (x 4)))) (i 1)))) (q (.cond (b .eql (x 5) (i 129)) (.exit
 2) .skip) (q (q (cl 11 24 (c2 (x 4) (x 5))) (s [(6,x 11)])) (.cond (b .neq (x 6) (i 0)) (q (s [(2,x 6),(1,.cst (.slice none 0 0))]) .ret) .skip)))))))))
 (q (s [(2,i 0),(1,ld (fa 2 (n1 .nilChk (x 4))))]) .ret)))))
def cf16:CF:=⟨1,12,[(.var 1),(.var 2)],bd16,.plain⟩
def tr16:List Nat:=[0,2,3,5,6,7,8,9,10,11,27,53]
def bd17:Stm:=
 q (s [(1,.cst (.pointer none))]) (q (q (.hv [(5,x 0)] [] [] (some 6) (.mkSl [.int .i64 0,.int .i64 0,.int .i64 0,.int .i64 0,.int .i64 0,.int .i64 0,
 .int .i64 0,.int .i64 0,.int .i64 0,.int .i64 0,.int .i64 0,.int .i64 0,.int .i64 0,.int .i64 0,.int .i64 0,.int .i64 0,.int .i64 0,.int .i64 0,
 .int .i64 0]) (c2 (b .add (n1 .len (x 0)) (i 1)) (b .add (n1 .len (x 0)) (i 1)))) (q (h 7 .box (c1 (n2 (.build [.slice none 0 0,.slice none 0 0] [(0,1),(1,
 1)]) (x 5) (x 6)))) (s [(2,x 7)]))) (q (q (s [(3,n1 .len (x 0))]) (.block 0 (.loop (q (.cond (b .geq (x 3) (i 0)) .skip (.exit 0)) (q (.block 1 (q (q (s
 [(8,i 0)]) (.block 2 (.loop (q (.cond (b .lss (x 8) (i 19)) .skip (.exit 2)) (q (.block 3 (q (s [(4,x 8)]) (.hv [] [] [] none (.st 1) (c2 (n2 (.iAddrA 19 1)
 (n2 (.iAddr 19) (ld (fa 1 (n1 .nilChk (x 2)))) (x 3)) (x 4)) (i 1073741824))))) (s [(8,b .add (x 8) (i 1))])))))) (q (.cond (b .eql (x 3) (n1 .len (x 0)))
 (.hv [] [] [] none (.st 1) (c2 (n2 (.iAddrA 19 1) (n2 (.iAddr 19) (ld (fa 1 (n1 .nilChk (x 2)))) (x 3)) (i 0)) (i 0))) .skip) (.hv [] [] [] none (.call false)
 (c3 (.cst (.func (.func 25) #[] #[])) (x 2) (x 3)))))) (s [(3,b .sub (x 3) (i 1))])))))) (q (s [(1,x 2)]) .ret)))
def cf17:CF:=⟨1,9,[(.var 1)],bd17,.plain⟩
def tr17:List Nat:=[0,2,3,4,5,6,10,12,19]
def bd18:Stm:=
 q (s [(1,.cst (.slice none 0 0))]) (.scope (q (q (h 8 (.mkSl [.int .i64 0]) (c2 (i 0) (ld (n2 (.iAddrA 19 1) (n2 (.iAddr 19) (ld (fa 1 (n1 .nilChk (x 0)))) (i
 0)) (i 0))))) (s [(2,x 8)])) (q (s [(4,i 0),(3,i 0)]) (q (h 5 (.alloc [.int .i64 0,.int .i64 0,.int .i64 0,.int .i64 0,.int .i64 0,.int .i64 0,.int
 .i64 0]) .nil) (q .skip (q (.cond (p (b .eql (x 4) (i 0)) (b .eql (x 3) (n1 .len (ld (fa 0 (n1 .nilChk (x 0)))))) (.cst (.bool false))) (q (s [(1,x 2)])
 .ret) .skip) (q (q (cl 9 26 (c3 (x 0) (x 3) (x 4))) (.hv [] [] [] none (.st 7) (c2 (x 5) (x 9)))) (q (.cond (b .gtr (ld (fa 4 (x 5))) (i 0)) (.exit 1000001)
 .skip) (q (q (h 10 (.app 1 [.int .i64 0]) (c2 (x 2) (n2 (.slA 3 1 false true false) (fa 0 (x 5)) (ld (fa 3 (x 5)))))) (s [(2,x 10)])) (q (.exit 1000002) (q
 .skip (q (q (.hv [(11,x 2)] [] [] (some 12) (.bSl [.int .i64 0] 1 [0]) (c1 (ld (n2 (.iAddrA 3 1) (fa 0 (x 5)) (i 0))))) (q (h 13 (.app 1 [.int .i64 0]) (c2
 (x 11) (x 12))) (s [(2,x 13)]))) (q (q (s [(16,i 0),(15,n1 .len (.node (.slA 3 1 true true false) (c3 (fa 0 (x 5)) (i 1) (ld (fa 3 (x 5)))))),(14,.node
 (.slA 3 1 true true false) (c3 (fa 0 (x 5)) (i 1) (ld (fa 3 (x 5)))))]) (.block 0 (.loop (q (.cond (b .lss (x 16) (x 15)) .skip (.exit 0)) (q (.block 1 (q (s
 [(6,ld (n2 (.iAddr 1) (x 14) (x 16)))]) (q (.hv [(18,x 6),(17,x 2)] [] [] (some 19) (.call false) (c2 (.cst (.func (.func 27) #[] #[])) (n1 .len (x 2))))
 (q (h 20 (.bSl [.int .i64 0] 1 [0]) (c1 (b .rem (b .add (x 18) (x 19)) (i 256)))) (q (h 21 (.app 1 [.int .i64 0]) (c2 (x 17) (x 20))) (s [(2,x 21)])))))) (s
 [(16,b .add (x 16) (i 1))])))))) (q (q (s [(24,i 0),(23,n1 .len (.node (.sl 1 true true false) (c3 (ld (fa 0 (n1 .nilChk (x 0)))) (x 3) (b .add (x 3) (ld
 (fa 4 (x 5))))))),(22,.node (.sl 1 true true false) (c3 (ld (fa 0 (n1 .nilChk (x 0)))) (x 3) (b .add (x 3) (ld (fa 4 (x 5))))))]) (.block 2 (.loop (q (.cond
 (b .lss (x 24) (x 23)) .skip (.exit 2)) (q (.block 3 (q (s [(7,ld (n2 (.iAddr 1) (x 22) (x 24)))]) (q (.hv [(26,n1 (.cvt .i64) (x 7)),(25,x 2)] [] []
 (some 27) (.call false) (c2 (.cst (.func (.func 27) #[] #[])) (n1 .len (x 2)))) (q (h 28 (.bSl [.int .i64 0] 1 [0]) (c1 (b .rem (b .add (x 26) (x 27)) (i
 256)))) (q (h 29 (.app 1 [.int .i64 0]) (c2 (x 25) (x 28))) (s [(2,x 29)])))))) (s [(24,b .add (x 24) (i 1))])))))) (q .skip (q (s [(4,ld (fa 6 (x 5))),
 (3,ld (fa 5 (x 5)))]) (.exit 1000000)))))))))))))))) (.alt 0 (q .skip (q (.cond (p (b .eql (x 4) (i 0)) (b .eql (x 3) (n1 .len (ld (fa 0 (n1 .nilChk (x
 0)))))) (.cst (.bool false))) (q (s [(1,x 2)]) .ret) .skip) (q (q (cl 9 26 (c3 (x 0) (x 3) (x 4))) (.hv [] [] [] none (.st 7) (c2 (x 5) (x 9)))) (q (.cond (b
 .gtr (ld (fa 4 (x 5))) (i 0)) (.exit 1000001) .skip) (q (q (h 10 (.app 1 [.int .i64 0]) (c2 (x 2) (n2 (.slA 3 1 false true false) (fa 0 (x 5)) (ld (fa 3 (x
 5)))))) (s [(2,x 10)])) (q (.exit 1000002) (q .skip (q (q (.hv [(11,x 2)] [] [] (some 12) (.bSl [.int .i64 0] 1 [0]) (c1 (ld (n2 (.iAddrA 3 1) (fa 0 (x 5))
 (i 0))))) (q (h 13 (.app 1 [.int .i64 0]) (c2 (x 11) (x 12))) (s [(2,x 13)]))) (q (q (s [(16,i 0),(15,n1 .len (.node (.slA 3 1 true true false) (c3 (fa 0
 (x 5)) (i 1) (ld (fa 3 (x 5)))))),(14,.node (.slA 3 1 true true false) (c3 (fa 0 (x 5)) (i 1) (ld (fa 3 (x 5)))))]) (.block 0 (.loop (q (.cond (b .lss (x
 16) (x 15)) .skip (.exit 0)) (q (.block 1 (q (s [(6,ld (n2 (.iAddr 1) (x 14) (x 16)))]) (q (.hv [(18,x 6),(17,x 2)] [] [] (some 19) (.call false) (c2
 (.cst (.func (.func 27) #[] #[])) (n1 .len (x 2)))) (q (h 20 (.bSl [.int .i64 0] 1 [0]) (c1 (b .rem (b .add (x 18) (x 19)) (i 256)))) (q (h 21 (.app 1 [.int
 .i64 0]) (c2 (x 17) (x 20))) (s [(2,x 21)])))))) (s [(16,b .add (x 16) (i 1))])))))) (q (q (s [(24,i 0),(23,n1 .len (.node (.sl 1 true true false) (c3
 (ld (fa 0 (n1 .nilChk (x 0)))) (x 3) (b .add (x 3) (ld (fa 4 (x 5))))))),(22,.node (.sl 1 true true false) (c3 (ld (fa 0 (n1 .nilChk (x 0)))) (x 3) (b .add
 (x 3) (ld (fa 4 (x 5))))))]) (.block 2 (.loop (q (.cond (b .lss (x 24) (x 23)) .skip (.exit 2)) (q (.block 3 (q (s [(7,ld (n2 (.iAddr 1) (x 22) (x 24)))]) (q
 (.hv [(26,n1 (.cvt .i64) (x 7)),(25,x 2)] [] [] (some 27) (.call false) (c2 (.cst (.func (.func 27) #[] #[])) (n1 .len (x 2)))) (q (h 28 (.bSl [.int .i64
 0] 1 [0]) (c1 (b .rem (b .add (x 26) (x 27)) (i 256)))) (q (h 29 (.app 1 [.int .i64 0]) (c2 (x 25) (x 28))) (s [(2,x 29)])))))) (s [(24,b .add (x 24) (i
 1))])))))) (q .skip (q (s [(4,ld (fa 6 (x 5))),(3,ld (fa 5 (x 5)))]) (.exit 1000000))))))))))))) (.alt 1 (q .skip (q (q (.hv [(11,x 2)] [] [] (some 12)
 (.bSl [.int .i64 0] 1 [0]) (c1 (ld (n2 (.iAddrA 3 1) (fa 0 (x 5)) (i 0))))) (q (h 13 (.app 1 [.int .i64 0]) (c2 (x 11) (x 12))) (s [(2,x 13)]))) (q (q (s
 [(16,i 0),(15,n1 .len (.node (.slA 3 1 true true false) (c3 (fa 0 (x 5)) (i 1) (ld (fa 3 (x 5)))))),(14,.node (.slA 3 1 true true false) (c3 (fa 0 (x 5))
 (i 1) (ld (fa 3 (x 5)))))]) (.block 0 (.loop (q (.cond (b .lss (x 16) (x 15)) .skip (.exit 0)) (q (.block 1 (q (s [(6,ld (n2 (.iAddr 1) (x 14) (x 16)))]) (q
 (.hv [(18,x 6),(17,x 2)] [] [] (some 19) (.call false) (c2 (.cst (.func (.func 27) #[] #[])) (n1 .len (x 2)))) (q (h 20 (.bSl [.int .i64 0] 1 [0]) (c1 (b
 .rem (b .add (x 18) (x 19)) (i 256)))) (q (h 21 (.app 1 [.int .i64 0]) (c2 (x 17) (x 20))) (s [(2,x 21)])))))) (s [(16,b .add (x 16) (i 1))])))))) (q (q (s
 [(24,i 0),(23,n1 .len (.node (.sl 1 true true false) (c3 (ld (fa 0 (n1 .nilChk (x 0)))) (x 3) (b .add (x 3) (ld (fa 4 (x 5))))))),(22,.node (.sl 1 true
 true false) (c3 (ld (fa 0 (n1 .nilChk (x 0)))) (x 3) (b .add (x 3) (ld (fa 4 (x 5))))))]) (.block 2 (.loop (q (.cond (b .lss (x 24) (x 23)) .skip (.exit 2))
 (q (.block 3 (q (s [(7,ld (n2 (.iAddr 1) (x 22) (x 24)))]) (q (.hv [(26,n1 (.cvt .i64) (x 7)),(25,x 2)] [] [] (some 27) (.call false) (c2 (.cst (.func
 (.func 27) #[] #[])) (n1 .len (x 2)))) (q (h 28 (.bSl [.int .i64 0] 1 [0]) (c1 (b .rem (b .add (x 26) (x 27)) (i 256)))) (q (h 29 (.app 1 [.int .i64 0]) (c2
 (x 25) (x 28))) (s [(2,x 29)])))))) (s [(24,b .add (x 24) (i 1))])))))) (q .skip (q (s [(4,ld (fa 6 (x 5))),(3,ld (fa 5 (x 5)))]) (.exit 1000000)))))))
 (.alt 2 (q .skip (q (s [(4,ld (fa 6 (x 5))),(3,ld (fa 5 (x 5)))]) (.exit 1000000))) (.cond .nil .skip .skip)))))
def cf18:CF:=⟨1,30,[(.var 1)],bd18,.plain⟩
def tr18:List Nat:=[0,2,3,4,5,6,8,10,18,34,43,44,48,49,53,54,55,59,60,63,66,67,78,79,80,84,86,89,92,93]
def bd19:Stm:=
 q (s [(1,.cst (.slice none 0 0))]) (q (q (h 9 (.mkSl [.int .i64 0,.int .i64 0,.int .i64 0,.int .i64 0,.int .i64 0,.int .i64 0,.int .i64 0,.int .i64 0,
 .int .i64 0,.int .i64 0,.int .i64 0,.int .i64 0,.int .i64 0,.int .i64 0,.int .i64 0,.int .i64 0,.int .i64 0,.int .i64 0,.int .i64 0,.int .i64 0,
 .int .i64 0,.int .i64 0,.int .i64 0,.int .i64 0,.int .i64 0,.int .i64 0,.int .i64 0,.int .i64 0,.int .i64 0,.int .i64 0,.int .i64 0,.int .i64 0,
 .int .i64 0,.int .i64 0,.int .i64 0,.int .i64 0,.int .i64 0,.int .i64 0,.int .i64 0,.int .i64 0,.int .i64 0,.int .i64 0,.int .i64 0,.int .i64 0,
 .int .i64 0,.int .i64 0,.int .i64 0,.int .i64 0,.int .i64 0,.int .i64 0,.int .i64 0,.int .i64 0,.int .i64 0,.int .i64 0,.int .i64 0,.int .i64 0,
 .int .i64 0,.int .i64 0,.int .i64 0,.int .i64 0,.int .i64 0,.int .i64 0,.int .i64 0,.int .i64 0,.int .i64 0,.int .i64 0,.int .i64 0,.int .i64 0,
 .int .i64 0,.int .i64 0,.int .i64 0,.int .i64 0,.int .i64 0,.int .i64 0,.int .i64 0,.int .i64 0,.int .i64 0,.int .i64 0,.int .i64 0,.int .i64 0,
 .int .i64 0,.int .i64 0,.int .i64 0,.int .i64 0,.int .i64 0,.int .i64 0,.int .i64 0,.int .i64 0,.int .i64 0,.int .i64 0,.int .i64 0,.int .i64 0,
 .int .i64 0,.int .i64 0,.int .i64 0,.int .i64 0,.int .i64 0,.int .i64 0,.int .i64 0,.int .i64 0,.int .i64 0,.int .i64 0,.int .i64 0,.int .i64 0,
 .int .i64 0,.int .i64 0,.int .i64 0,.int .i64 0,.int .i64 0,.int .i64 0,.int .i64 0,.int .i64 0,.int .i64 0,.int .i64 0,.int .i64 0,.int .i64 0,
 .int .i64 0,.int .i64 0,.int .i64 0,.int .i64 0,.int .i64 0,.int .i64 0,.int .i64 0,.int .i64 0,.int .i64 0,.int .i64 0,.int .i64 0,.int .i64 0])
 (c2 (b .add (n1 .len (x 0)) (i 1)) (b .add (n1 .len (x 0)) (i 1)))) (s [(2,x 9)])) (q (q (s [(3,n1 .len (x 0))]) (.block 0 (.loop (q (.cond (b .geq (x 3) (i
 0)) .skip (.exit 0)) (q (.block 1 (q (q (cl 10 28 (c1 (x 3))) (s [(4,x 10)])) (q (q (s [(5,i 0)]) (.block 2 (.loop (q (.cond (b .lss (x 5) (i 128)) .skip
 (.exit 2)) (q (.block 3 (.hv [] [] [] none (.st 1) (c2 (n2 (.iAddrA 128 1) (fa 0 (n2 (.iAddr 128) (x 2) (x 3))) (x 5)) (i 1099511627776)))) (s [(5,b .add (x
 5) (i 1))])))))) (q (s [(6,.cst (.bool true))]) (.block 4 (.loop (q (.cond (x 6) .skip (.exit 4)) (.block 5 (q (s [(6,.cst (.bool false))]) (q (s [(7,i
 0)]) (.block 6 (.loop (q (.cond (b .lss (x 7) (n1 .len (x 4))) .skip (.exit 6)) (q (.block 7 (q (q (cl 11 29 (c3 (x 0) (n1 (.ld 5 true) (n2 (.iAddr 5) (x 4)
 (x 7))) (x 2))) (s [(8,x 11)])) (q (.hv [(14,fa 0 (n2 (.iAddr 128) (x 2) (x 3))),(12,x 8)] [] [] (some 13) .callC (c2 (.cst (.func (.func 30) #[] #[]))
 (n1 (.ld 5 true) (n2 (.iAddr 5) (x 4) (x 7))))) (.cond (b .lss (x 12) (ld (n2 (.iAddrA 128 1) (x 14) (x 13)))) (q (q (.hv [(17,fa 0 (n2 (.iAddr 128) (x 2) (x
 3))),(16,x 8)] [] [] (some 15) .callC (c2 (.cst (.func (.func 30) #[] #[])) (n1 (.ld 5 true) (n2 (.iAddr 5) (x 4) (x 7))))) (.hv [] [] [] none (.st 1) (c2
 (n2 (.iAddrA 128 1) (x 17) (x 15)) (x 16)))) (s [(6,.cst (.bool true))])) .skip)))) (s [(7,b .add (x 7) (i 1))]))))))))))))))) (s [(3,b .sub (x 3) (i
 1))])))))) (q (s [(1,x 2)]) .ret)))
def cf19:CF:=⟨1,18,[(.var 1)],bd19,.plain⟩
def tr19:List Nat:=[0,2,3,4,5,6,7,8,9,13,21,45,46,53,55,65,66,68]
def bd20:Stm:=
 q (q (h 3 .box (c1 (x 1))) (h 4 (.alloc [.int .i64 0,.int .i64 0,.int .i64 0,.int .i64 0,.int .i64 0,.int .i64 0,.int .i64 0,.int .i64 0,.bool false])
 .nil)) (q (q (cl 9 31 (c2 (x 0) (n1 (.ld 5 true) (x 3)))) (s [(5,x 9)])) (q (q (.hv [(10,.node (.build [.int .i64 0,.int .i64 0,.int .i64 0,.int .i64 0,
 .int .i64 0,.int .i64 0,.int .i64 0,.int .i64 0,.bool false] []) .nil)] [] [] (some 6) (.alloc [.int .i64 0,.int .i64 0,.int .i64 0,.int .i64 0,.int
 .i64 0,.int .i64 0,.int .i64 0,.int .i64 0,.bool false]) .nil) (q (.hv [] [] [] none (.st 9) (c2 (x 6) (x 10))) (s [(7,.cst (.bool false))]))) (q (q (s
 [(8,i 0)]) (.block 0 (.loop (q (.cond (b .lss (x 8) (n1 .len (x 5))) .skip (.exit 0)) (q (.block 1 (q (.hv [(17,fa 0 (n2 (.iAddr 128) (x 2) (ld (fa 0 (x
 3))))),(15,n1 (.ld 5 true) (x 3)),(13,fa 0 (n2 (.iAddr 128) (x 2) (ld (fa 0 (fa 4 (n2 (.iAddr 9) (x 5) (x 8))))))),(11,ld (fa 3 (n2 (.iAddr 9) (x 5) (x
 8))))] [] [] (some 12) (.call true) (c2 (.cst (.func (.func 30) #[] #[])) (n1 (.ld 5 true) (fa 4 (n2 (.iAddr 9) (x 5) (x 8)))))) (q (.hv [(14,b .add (x 11)
 (ld (n2 (.iAddrA 128 1) (x 13) (x 12))))] [] [] (some 16) (.call true) (c2 (.cst (.func (.func 30) #[] #[])) (x 15))) (q (.hv [(19,p (b .eql (x 14) (ld (n2
 (.iAddrA 128 1) (x 17) (x 16)))) (n1 (.un .not) (x 7)) (.cst (.tuple #[]))),(18,b .eql (x 14) (ld (n2 (.iAddrA 128 1) (x 17) (x 16))))] [] [(b .eql (x 14)
 (ld (n2 (.iAddrA 128 1) (x 17) (x 16))),true),(n1 (.un .not) (x 7),false)] (some 20) .callC (c3 (.cst (.func (.func 32) #[] #[])) (n1 (.ld 9 true) (n2
 (.iAddr 9) (x 5) (x 8))) (n1 (.ld 9 true) (x 6)))) (.cond (p (x 18) (p (x 19) (.cst (.bool true)) (x 20)) (.cst (.bool false))) (q (.hv [] [] [] none (.st 9)
 (c2 (x 6) (n1 (.ld 9 true) (n2 (.iAddr 9) (x 5) (x 8))))) (s [(7,.cst (.bool true))])) .skip))))) (s [(8,b .add (x 8) (i 1))])))))) (q (.hv [] [] [] none
 (.st 9) (c2 (x 4) (n1 (.ld 9 true) (x 6)))) .ret))))
def cf20:CF:=⟨3,21,[(.node (.ld 9 true) (.cons (.var 4) .nil))],bd20,.plain⟩
def tr20:List Nat:=[0,1,2,4,6,7,8,9,10,13,14,25,38,40,43,47,48,50,54,57,63]
def bd21:Stm:=
 q (s [(2,i 0)]) (q (s [(2,b .rem (b .add (b .add (x 0) (b .rem (b .mul (i 149) (x 1)) (i 255))) (i 1)) (i 256))]) .ret)
def cf21:CF:=⟨2,3,[(.var 2)],bd21,.plain⟩
def tr21:List Nat:=[0,1,4]
def bd22:Stm:=
 q (s [(1,.cst (.slice none 0 0))]) (q (q (h 4 (.mkSl [.int .i64 0]) (c2 (b .quo (b .add (b .mul (i 6) (n1 .len (x 0))) (i 7)) (i 8)) (b .quo (b .add (b .mul (i
 6) (n1 .len (x 0))) (i 7)) (i 8)))) (s [(2,x 4)])) (q (q (s [(3,i 0)]) (.block 0 (.loop (q (.cond (b .lss (x 3) (b .mul (i 6) (n1 .len (x 0)))) .skip (.exit
 0)) (q (.block 1 (.cond (b .eql (b .and (b .shr (ld (n2 (.iAddr 1) (x 0) (b .quo (x 3) (i 6)))) (n1 (.cvt .u64) (b .sub (i 5) (b .rem (x 3) (i 6))))) (i 1))
 (i 1)) (.hv [] [] [] none (.st 1) (c2 (n2 (.iAddr 1) (x 2) (b .quo (x 3) (i 8))) (b .add (ld (n2 (.iAddr 1) (x 2) (b .quo (x 3) (i 8)))) (b .shl (i 1) (n1
 (.cvt .u64) (b .sub (i 7) (b .rem (x 3) (i 8)))))))) .skip)) (s [(3,b .add (x 3) (i 1))])))))) (q (s [(1,x 2)]) .ret)))
def cf22:CF:=⟨1,5,[(.var 1)],bd22,.plain⟩
def tr22:List Nat:=[0,2,3,4,10]
def bd23:Stm:=
 q (s [(1,.cst (.bool false))]) (q (q (s [(2,i 0)]) (.block 0 (.loop (q (.cond (b .lss (x 2) (n1 .len (x 0))) .skip (.exit 0)) (q (.block 1 (.cond (p (b .lss
 (ld (n2 (.iAddr 1) (x 0) (x 2))) (i 0)) (.cst (.bool true)) (b .gtr (ld (n2 (.iAddr 1) (x 0) (x 2))) (i 255))) (q (s [(1,.cst (.bool false))]) .ret) .skip))
 (s [(2,b .add (x 2) (i 1))])))))) (q (s [(1,.cst (.bool true))]) .ret))
def cf23:CF:=⟨1,3,[(.var 1)],bd23,.plain⟩
def tr23:List Nat:=[0,2,3]
def bd24:Stm:=
 q (s [(2,i 0)]) (q (.block 0 (.cond (p (b .geq (x 1) (i 1)) (b .leq (x 1) (i 128)) (.cst (.bool false))) (q (q (.hv [(5,ld (fa 2 (n1 .nilChk (x 0)))),(4,x
 0)] [] [] (some 6) (.bSl [.int .u8 0] 1 [0]) (c1 (n1 (.cvt .u8) (b .sub (x 1) (i 1))))) (q (h 7 (.app 1 [.int .u8 0]) (c2 (x 5) (x 6))) (.hv [] [] [] none
 (.st 1) (c2 (fa 2 (n1 .nilChk (x 4))) (x 7))))) (q (s [(2,i 0)]) .ret)) (.cond (p (b .geq (x 1) (i 130)) (b .lss (x 1) (i 230)) (.cst (.bool false))) (q (s
 [(3,b .sub (x 1) (i 130))]) (q (q (.hv [(9,ld (fa 2 (n1 .nilChk (x 0)))),(8,x 0)] [] [] (some 10) (.bSl [.int .u8 0] 2 [0,1]) (c2 (n1 (.cvt .u8) (b .add
 (i 48) (b .quo (x 3) (i 10)))) (n1 (.cvt .u8) (b .add (i 48) (b .rem (x 3) (i 10)))))) (q (h 11 (.app 1 [.int .u8 0]) (c2 (x 9) (x 10))) (.hv [] [] [] none
 (.st 1) (c2 (fa 2 (n1 .nilChk (x 8))) (x 11))))) (q (s [(2,i 0)]) .ret))) .skip))) (q (q (s [(12,x 1)]) (.block 1 (.cond (b .eql (x 12) (i 235)) (q (q (cl
 13 33 (c1 (x 0))) (s [(2,x 13)])) .ret) (.cond (b .eql (x 12) (i 230)) (q (q (cl 14 34 (c2 (x 0) (.cst (.bool false)))) (s [(2,x 14)])) .ret) (.cond (b .eql
 (x 12) (i 239)) (q (q (cl 15 34 (c2 (x 0) (.cst (.bool true)))) (s [(2,x 15)])) .ret) (.cond (b .eql (x 12) (i 231)) (q (q (cl 16 35 (c1 (x 0))) (s [(2,x
 16)])) .ret) (.cond (b .eql (x 12) (i 238)) (q (q (cl 17 36 (c1 (x 0))) (s [(2,x 17)])) .ret) (.cond (b .eql (x 12) (i 240)) (q (q (cl 18 37 (c1 (x 0))) (s
 [(2,x 18)])) .ret) .skip)))))))) (q (s [(2,i 22)]) .ret)))
def cf24:CF:=⟨2,19,[(.var 2)],bd24,.plain⟩
def tr24:List Nat:=[0,1,4,5,13,17,21,22,34,38,47,48,51,55,59,63,67,71,75]
def bd25:Stm:=
 q (h 2 (.alloc [.slice none 0 0,.slice none 0 0,.slice none 0 0,.slice none 0 0,.slice none 0 0,.slice none 0 0,.slice none 0 0,.slice none 0 0,.slice
 none 0 0,.slice none 0 0,.slice none 0 0,.slice none 0 0,.slice none 0 0,.slice none 0 0,.slice none 0 0,.slice none 0 0,.slice none 0 0,.slice none
 0 0,.slice none 0 0]) .nil) (q (q (s [(9,i 0)]) (.block 0 (.loop (q (.cond (b .lss (x 9) (i 19)) .skip (.exit 0)) (q (.block 1 (q (s [(3,x 9)]) (q (.hv
 [(10,x 3)] [] [] (some 11) (.call false) (c (.cst (.func (.func 38) #[] #[])) (c3 (x 0) (x 1) (x 3)))) (.hv [] [] [] none (.st 1) (c2 (n2 (.iAddrA 19 1) (x
 2) (x 10)) (x 11)))))) (s [(9,b .add (x 9) (i 1))])))))) (q (s [(4,.cst (.bool true))]) (.block 2 (.loop (q (.cond (x 4) .skip (.exit 2)) (.block 3 (q (s
 [(4,.cst (.bool false))]) (q (s [(13,i 0),(12,n1 (.ld 19 true) (x 2))]) (.block 4 (.loop (q (.cond (b .lss (x 13) (i 19)) .skip (.exit 4)) (q (.block 5 (q
 (s [(6,n2 (.idx 19 1 false) (x 12) (x 13)),(5,x 13)]) (q (s [(16,i 0),(15,n1 .len (x 6)),(14,x 6)]) (.block 6 (.loop (q (.cond (b .lss (x 16) (x 15))
 .skip (.exit 6)) (q (.block 7 (q (q (.hv [(17,n1 (.ld 7 true) (n2 (.iAddr 7) (x 14) (x 16)))] [] [] (some 7) (.alloc [.int .i64 0,.int .i64 0,.int .i64 0,
 .int .i64 0,.int .i64 0,.int .i64 0,.int .i64 0]) .nil) (.hv [] [] [] none (.st 7) (c2 (x 7) (x 17)))) (q (q (cl 18 39 (c2 (x 0) (n1 (.ld 7 true) (x 7))))
 (s [(8,x 18)])) (.cond (b .lss (x 8) (ld (n2 (.iAddrA 19 1) (n2 (.iAddr 19) (ld (fa 1 (n1 .nilChk (x 0)))) (x 1)) (x 5)))) (q (.hv [] [] [] none (.st 1) (c2
 (n2 (.iAddrA 19 1) (n2 (.iAddr 19) (ld (fa 1 (n1 .nilChk (x 0)))) (x 1)) (x 5)) (x 8))) (s [(4,.cst (.bool true))])) .skip)))) (s [(16,b .add (x 16) (i
 1))])))))))) (s [(13,b .add (x 13) (i 1))])))))))))))))
def cf25:CF:=⟨2,19,[],bd25,.plain⟩
def tr25:List Nat:=[0,1,4,5,6,7,8,10,11,12,15,19,23,24,28,29,30,33,36]
def bd26:Stm:=
 q (h 3 (.alloc [.int .i64 0,.int .i64 0,.int .i64 0,.int .i64 0,.int .i64 0,.int .i64 0,.int .i64 0]) .nil) (q (h 4 (.alloc [.int .i64 0,.int .i64 0,
 .int .i64 0,.int .i64 0,.int .i64 0,.int .i64 0,.int .i64 0]) .nil) (q (q (q (cl 6 38 (c3 (x 0) (x 1) (x 2))) (s [(8,i 0),(7,n1 .len (x 6))])) (.block
 0 (.loop (q (.cond (b .lss (x 8) (x 7)) .skip (.exit 0)) (q (.block 1 (q (q (.hv [(9,n1 (.ld 7 true) (n2 (.iAddr 7) (x 6) (x 8)))] [] [] (some 5) (.alloc
 [.int .i64 0,.int .i64 0,.int .i64 0,.int .i64 0,.int .i64 0,.int .i64 0,.int .i64 0]) .nil) (.hv [] [] [] none (.st 7) (c2 (x 5) (x 9)))) (q (q (.hv
 [(11,ld (n2 (.iAddrA 19 1) (n2 (.iAddr 19) (ld (fa 1 (n1 .nilChk (x 0)))) (x 1)) (x 2)))] [] [] (some 10) (.call true) (c3 (.cst (.func (.func 39) #[] #[]))
 (x 0) (n1 (.ld 7 true) (x 5)))) (.cond (b .neq (x 10) (x 11)) (.exit 1) .skip)) (q (.hv [(12,b .eql (ld (fa 3 (x 4))) (i 0))] [] [(b .eql (ld (fa 3 (x 4)))
 (i 0),false)] (some 13) .callC (c3 (.cst (.func (.func 40) #[] #[])) (n2 (.slA 3 1 false true false) (fa 0 (x 5)) (ld (fa 3 (x 5)))) (n2 (.slA 3 1 false true
 false) (fa 0 (x 4)) (ld (fa 3 (x 4)))))) (.cond (p (x 12) (.cst (.bool true)) (b .lss (x 13) (i 0))) (.hv [] [] [] none (.st 7) (c2 (x 4) (n1 (.ld 7 true) (x
 5)))) .skip))))) (s [(8,b .add (x 8) (i 1))])))))) (q (.hv [] [] [] none (.st 7) (c2 (x 3) (n1 (.ld 7 true) (x 4)))) .ret)))
def cf26:CF:=⟨3,14,[(.node (.ld 7 true) (.cons (.var 3) .nil))],bd26,.plain⟩
def tr26:List Nat:=[0,1,2,6,7,9,13,14,15,18,21,30,35,44]
def bd27:Stm:=
 q (s [(1,i 0)]) (q (s [(1,b .add (b .rem (b .mul (i 149) (b .add (x 0) (i 1))) (i 255)) (i 1))]) .ret)
def cf27:CF:=⟨1,2,[(.var 1)],bd27,.plain⟩
def tr27:List Nat:=[0,2]
def bd28:Stm:=
 q (s [(1,.cst (.slice none 0 0))]) (q (q (h 7 (.bSl [.int .i64 0,.int .i64 0,.int .i64 0,.int .i64 0,.bool false] 1 [0]) (c1 (n1 (.build [.int .i64 0,.int
 .i64 0,.int .i64 0,.int .i64 0,.bool false] [(0,1)]) (x 0)))) (s [(2,x 7)])) (q (q (s [(3,i 1)]) (.block 0 (.loop (q (.cond (b .leq (x 3) (i 2)) .skip
 (.exit 0)) (q (.block 1 (q (s [(4,i 0)]) (.block 2 (.loop (q (.cond (b .lss (x 4) (i 3)) .skip (.exit 2)) (q (.block 3 (q (s [(5,i 0)]) (.block 4 (.loop (q
 (.cond (b .lss (x 5) (i 4)) .skip (.exit 4)) (q (.block 5 (q (.hv [(8,x 2)] [] [] (some 9) (.bSl [.int .i64 0,.int .i64 0,.int .i64 0,.int .i64 0,.bool
 false] 2 [0,1]) (c2 (.node (.build [.int .i64 0,.int .i64 0,.int .i64 0,.int .i64 0,.bool false] [(0,1),(1,1),(2,1),(3,1)]) (c (x 0) (c3 (x 3) (x
 4) (x 5)))) (.node (.build [.int .i64 0,.int .i64 0,.int .i64 0,.int .i64 0,.bool false] [(0,1),(1,1),(2,1),(3,1),(4,1)]) (c (x 0) (c (x 3) (c3
 (x 4) (x 5) (.cst (.bool true)))))))) (q (h 10 (.app 5 [.int .i64 0,.int .i64 0,.int .i64 0,.int .i64 0,.bool false]) (c2 (x 8) (x 9))) (s [(2,x 10)]))))
 (s [(5,b .add (x 5) (i 1))]))))))) (s [(4,b .add (x 4) (i 1))]))))))) (s [(3,b .add (x 3) (i 1))])))))) (q (q (s [(6,i 0)]) (.block 6 (.loop (q (.cond (b
 .lss (x 6) (i 4)) .skip (.exit 6)) (q (.block 7 (q (.cond (b .lss (x 6) (i 3)) (q (.hv [(11,x 2)] [] [] (some 12) (.bSl [.int .i64 0,.int .i64 0,.int .i64
 0,.int .i64 0,.bool false] 1 [0]) (c1 (.node (.build [.int .i64 0,.int .i64 0,.int .i64 0,.int .i64 0,.bool false] [(0,1),(1,1),(2,1)]) (c3 (x 0)
 (i 3) (x 6))))) (q (h 13 (.app 5 [.int .i64 0,.int .i64 0,.int .i64 0,.int .i64 0,.bool false]) (c2 (x 11) (x 12))) (s [(2,x 13)]))) .skip) (q (.hv [(14,
 x 2)] [] [] (some 15) (.bSl [.int .i64 0,.int .i64 0,.int .i64 0,.int .i64 0,.bool false] 1 [0]) (c1 (.node (.build [.int .i64 0,.int .i64 0,.int .i64
 0,.int .i64 0,.bool false] [(0,1),(1,1),(2,1)]) (c3 (x 0) (i 4) (x 6))))) (q (h 16 (.app 5 [.int .i64 0,.int .i64 0,.int .i64 0,.int .i64 0,.bool
 false]) (c2 (x 14) (x 15))) (s [(2,x 16)]))))) (s [(6,b .add (x 6) (i 1))])))))) (q (s [(1,x 2)]) .ret))))
def cf28:CF:=⟨1,17,[(.var 1)],bd28,.plain⟩
def tr28:List Nat:=[0,2,3,4,5,6,7,10,23,34,35,42,46,47,48,52,53]
def bd29:Stm:=
 q (q (h 3 .box (c1 (x 1))) (s [(4,i 0)])) (q (s [(5,i 1099511627776)]) (q (.cond (p (b .eql (ld (fa 1 (x 3))) (i 0)) (b .eql (ld (fa 0 (x 3))) (n1 .len (x
 0))) (.cst (.bool false))) (s [(5,i 0)]) .skip) (q (q (cl 8 31 (c2 (x 0) (n1 (.ld 5 true) (x 3)))) (s [(6,x 8)])) (q (q (s [(7,i 0)]) (.block 0 (.loop (q
 (.cond (b .lss (x 7) (n1 .len (x 6))) .skip (.exit 0)) (q (.block 1 (q (.hv [(12,fa 0 (n2 (.iAddr 128) (x 2) (ld (fa 0 (fa 4 (n2 (.iAddr 9) (x 6) (x
 7))))))),(10,ld (fa 3 (n2 (.iAddr 9) (x 6) (x 7)))),(9,x 5)] [] [] (some 11) (.call true) (c2 (.cst (.func (.func 30) #[] #[])) (n1 (.ld 5 true) (fa 4 (n2
 (.iAddr 9) (x 6) (x 7)))))) (s [(5,n2 (.minmax false) (x 9) (b .add (x 10) (ld (n2 (.iAddrA 128 1) (x 12) (x 11)))))]))) (s [(7,b .add (x 7) (i 1))]))))))
 (q (s [(4,x 5)]) .ret)))))
def cf29:CF:=⟨3,13,[(.var 4)],bd29,.plain⟩
def tr29:List Nat:=[0,1,2,4,6,7,8,9,22,29,34,47,49]
def bd30:Stm:=
 q (q (h 1 .box (c1 (x 0))) (s [(2,i 0)])) (q (s [(3,b .add (ld (fa 2 (x 1))) (b .mul (i 4) (ld (fa 3 (x 1)))))]) (q (.cond (ld (fa 4 (x 1))) (s [(3,b .add (x
 3) (i 16))]) .skip) (q (.cond (p (b .eql (ld (fa 1 (x 1))) (i 3)) (.cst (.bool true)) (b .eql (ld (fa 1 (x 1))) (i 4))) (q (s [(2,b .add (b .add (i 100) (b
 .mul (i 10) (b .sub (ld (fa 1 (x 1))) (i 3)))) (ld (fa 2 (x 1))))]) .ret) .skip) (q (s [(2,b .add (b .mul (ld (fa 1 (x 1))) (i 32)) (x 3))]) .ret))))
def cf30:CF:=⟨1,4,[(.var 2)],bd30,.plain⟩
def tr30:List Nat:=[0,1,2,3]
def bd31:Stm:=
 q (q (h 2 .box (c1 (x 1))) (s [(3,.cst (.slice none 0 0))])) (q (.cond (b .eql (ld (fa 1 (x 2))) (i 0)) (q (q (cl 6 41 (c2 (x 0) (ld (fa 0 (x 2))))) (s [(3,x
 6)])) .ret) .skip) (q (.cond (b .neq (ld (fa 1 (x 2))) (i 4)) (q (q (cl 7 42 (c2 (x 0) (n1 (.ld 5 true) (x 2)))) (s [(3,x 7)])) .ret) .skip) (q (s [(4,i
 1)]) (q (.cond (b .eql (ld (fa 2 (x 2))) (i 3)) (s [(4,i 0)]) .skip) (q (q (h 8 (.bSl [.int .i64 0,.int .i64 0,.int .i64 0,.int .i64 0,.int .i64 0,.int
 .i64 0,.int .i64 0,.int .i64 0,.bool false] 1 [0]) (c1 (.node (.build [.int .i64 0,.int .i64 0,.int .i64 0,.int .i64 0,.int .i64 0,.int .i64 0,.int
 .i64 0,.int .i64 0,.bool false] [(0,1),(1,1),(2,1),(3,1),(4,5)]) (c (i 31) (c (i (-1)) (c3 (i (-1)) (x 4) (n1 (.build [.int .i64 0,.int .i64 0,
 .int .i64 0,.int .i64 0,.bool false] [(0,1)]) (ld (fa 0 (x 2)))))))))) (s [(5,x 8)])) (q (.cond (p (p (b .lss (ld (fa 0 (x 2))) (n1 .len (x 0))) (b .geq
 (ld (n2 (.iAddr 1) (x 0) (ld (fa 0 (x 2))))) (.cst (.int .u8 32))) (.cst (.bool false))) (b .leq (ld (n2 (.iAddr 1) (x 0) (ld (fa 0 (x 2))))) (.cst (.int .u8
 94))) (.cst (.bool false))) (q (.hv [(9,x 5)] [] [] (some 10) (.bSl [.int .i64 0,.int .i64 0,.int .i64 0,.int .i64 0,.int .i64 0,.int .i64 0,.int .i64
 0,.int .i64 0,.bool false] 1 [0]) (c1 (.node (.build [.int .i64 0,.int .i64 0,.int .i64 0,.int .i64 0,.int .i64 0,.int .i64 0,.int .i64 0,.int .i64
 0,.bool false] [(0,1),(1,1),(2,1),(3,1),(4,5)]) (c (b .rem (n1 (.cvt .i64) (ld (n2 (.iAddr 1) (x 0) (ld (fa 0 (x 2)))))) (i 64)) (c (i (-1)) (c3 (i
 (-1)) (x 4) (.node (.build [.int .i64 0,.int .i64 0,.int .i64 0,.int .i64 0,.bool false] [(0,1),(1,1),(2,1)]) (c3 (b .add (ld (fa 0 (x 2))) (i 1)) (i
 4) (b .rem (b .add (ld (fa 2 (x 2))) (i 1)) (i 4)))))))))) (q (h 11 (.app 9 [.int .i64 0,.int .i64 0,.int .i64 0,.int .i64 0,.int .i64 0,.int .i64 0,
 .int .i64 0,.int .i64 0,.bool false]) (c2 (x 9) (x 10))) (s [(5,x 11)]))) .skip) (q (s [(3,x 5)]) .ret)))))))
def cf31:CF:=⟨2,12,[(.var 3)],bd31,.plain⟩
def tr31:List Nat:=[0,1,3,4,5,6,13,19,28,50,68,69]
def bd32:Stm:=
 q (q (h 2 .box (c1 (x 0))) (q (h 3 .box (c1 (x 1))) (s [(4,.cst (.bool false))]))) (q (.cond (b .neq (ld (fa 0 (x 2))) (ld (fa 0 (x 3)))) (q (s [(4,b .lss (ld
 (fa 0 (x 2))) (ld (fa 0 (x 3))))]) .ret) .skip) (q (.cond (b .neq (ld (fa 1 (x 2))) (ld (fa 1 (x 3)))) (q (s [(4,b .lss (ld (fa 1 (x 2))) (ld (fa 1 (x
 3))))]) .ret) .skip) (q (s [(4,b .lss (ld (fa 2 (x 2))) (ld (fa 2 (x 3))))]) .ret)))
def cf32:CF:=⟨2,5,[(.var 4)],bd32,.plain⟩
def tr32:List Nat:=[0,1,2,3,4]
def bd33:Stm:=
 q (s [(1,i 0)]) (q (.cond (b .geq (ld (fa 1 (n1 .nilChk (x 0)))) (n1 .len (ld (fa 0 (n1 .nilChk (x 0)))))) (q (s [(1,i 10)]) .ret) .skip) (q (s [(2,ld (n2
 (.iAddr 1) (ld (fa 0 (n1 .nilChk (x 0)))) (ld (fa 1 (n1 .nilChk (x 0))))))]) (q (.cond (p (b .lss (x 2) (i 1)) (.cst (.bool true)) (b .gtr (x 2) (i 128))) (q
 (s [(1,i 22)]) .ret) .skip) (q (.hv [] [] [] none (.st 1) (c2 (fa 1 (n1 .nilChk (x 0))) (b .add (ld (fa 1 (n1 .nilChk (x 0)))) (i 1)))) (q (q (.hv [(4,ld
 (fa 2 (n1 .nilChk (x 0)))),(3,x 0)] [] [] (some 5) (.bSl [.int .u8 0] 1 [0]) (c1 (n1 (.cvt .u8) (b .add (x 2) (i 127))))) (q (h 6 (.app 1 [.int .u8 0]) (c2
 (x 4) (x 5))) (.hv [] [] [] none (.st 1) (c2 (fa 2 (n1 .nilChk (x 3))) (x 6))))) (q (s [(1,i 0)]) .ret))))))
def cf33:CF:=⟨1,7,[(.var 1)],bd33,.plain⟩
def tr33:List Nat:=[0,2,3,37,41,45,46]
def bd34:Stm:=
 q (s [(2,i 0)]) (q (s [(4,.cst (.bool false)),(3,i 0)]) (.block 0 (.loop (.block 1 (q (q (cl 11 43 (c1 (x 0))) (q (.hv [(14,ix 2 (x 11)),(13,ix 1 (x
 11)),(12,ix 0 (x 11))] [] [] (some 5) (.alloc [.int .i64 0,.int .i64 0,.int .i64 0]) .nil) (q (.hv [] [] [] none (.st 3) (c2 (x 5) (x 12))) (s [(7,x 14),
 (6,x 13)])))) (q (.cond (p (b .neq (x 7) (i 0)) (.cst (.bool true)) (x 6)) (q (s [(2,x 7)]) .ret) .skip) (q (s [(16,i 0),(15,n1 (.ld 3 true) (x 5))])
 (.block 2 (.loop (q (.cond (b .lss (x 16) (i 3)) .skip (.exit 2)) (q (.block 3 (q (s [(8,n2 (.idx 3 1 false) (x 15) (x 16))]) (q (.cond (p (b .eql (x 3) (i
 0)) (b .leq (x 8) (i 2)) (.cst (.bool false))) (q (s [(3,b .add (x 8) (i 1))]) (.exit 3)) .skip) (q (.cond (p (p (b .eql (x 3) (i 2)) (b .eql (x 8) (i 30))
 (.cst (.bool false))) (n1 (.un .not) (x 4)) (.cst (.bool false))) (q (s [(4,.cst (.bool true)),(3,i 0)]) (.exit 3)) .skip) (q (q (cl 17 44 (c3 (x 1) (x 3)
 (x 8))) (s [(10,ix 1 (x 17)),(9,ix 0 (x 17))])) (q (.cond (n1 (.un .not) (x 10)) (q (s [(2,i 22)]) .ret) .skip) (q (.cond (x 4) (s [(9,b .add (x 9) (.cst
 (.int .u8 128)))]) .skip) (q (q (.hv [(19,ld (fa 2 (n1 .nilChk (x 0)))),(18,x 0)] [] [] (some 20) (.bSl [.int .u8 0] 1 [0]) (c1 (x 9))) (q (h 21 (.app 1
 [.int .u8 0]) (c2 (x 19) (x 20))) (.hv [] [] [] none (.st 1) (c2 (fa 2 (n1 .nilChk (x 18))) (x 21))))) (s [(4,.cst (.bool false)),(3,i 0)]))))))))) (s
 [(16,b .add (x 16) (i 1))]))))))))))))
def cf34:CF:=⟨2,22,[(.var 2)],bd34,.plain⟩
def tr34:List Nat:=[0,1,4,5,6,7,8,9,11,12,13,16,17,18,19,26,27,52,60,64,66,67]
def bd35:Stm:=
 q (s [(1,i 0)]) (q (q (cl 8 45 (c1 (x 0))) (s [(3,ix 1 (x 8)),(2,ix 0 (x 8))])) (q (.cond (n1 (.un .not) (x 3)) (q (s [(1,i 10)]) .ret) .skip) (q (.cond (b
 .eql (x 2) (i 0)) (q (s [(1,i 22)]) .ret) .skip) (q (.cond (b .geq (x 2) (i 250)) (q (q (cl 9 45 (c1 (x 0))) (s [(5,ix 1 (x 9)),(4,ix 0 (x 9))])) (q
 (.cond (n1 (.un .not) (x 5)) (q (s [(1,i 10)]) .ret) .skip) (q (.cond (b .geq (x 4) (i 250)) (q (s [(1,i 22)]) .ret) .skip) (s [(2,b .add (b .mul (i 250)
 (b .sub (x 2) (i 249))) (x 4))])))) .skip) (q (q (s [(11,i 0),(10,x 2)]) (.block 0 (.loop (q (.cond (b .lss (x 11) (x 10)) .skip (.exit 0)) (q (.block 1 (q
 (q (cl 12 45 (c1 (x 0))) (s [(7,ix 1 (x 12)),(6,ix 0 (x 12))])) (q (.cond (n1 (.un .not) (x 7)) (q (s [(1,i 10)]) .ret) .skip) (q (.hv [(14,ld (fa 2 (n1
 .nilChk (x 0)))),(13,x 0)] [] [] (some 15) (.bSl [.int .u8 0] 1 [0]) (c1 (n1 (.cvt .u8) (x 6)))) (q (h 16 (.app 1 [.int .u8 0]) (c2 (x 14) (x 15))) (.hv []
 [] [] none (.st 1) (c2 (fa 2 (n1 .nilChk (x 13))) (x 16)))))))) (s [(11,b .add (x 11) (i 1))])))))) (q (s [(1,i 0)]) .ret))))))
def cf35:CF:=⟨1,17,[(.var 1)],bd35,.plain⟩
def tr35:List Nat:=[0,2,3,4,5,6,7,8,11,22,34,35,39,44,48,51,52]
def bd36:Stm:=
 q (s [(1,i 0)]) (.block 0 (.loop (.block 1 (q (q (cl 6 43 (c1 (x 0))) (q (.hv [(9,ix 2 (x 6)),(8,ix 1 (x 6)),(7,ix 0 (x 6))] [] [] (some 2) (.alloc [.int
 .i64 0,.int .i64 0,.int .i64 0]) .nil) (q (.hv [] [] [] none (.st 3) (c2 (x 2) (x 7))) (s [(4,x 9),(3,x 8)])))) (q (.cond (p (b .neq (x 4) (i 0)) (.cst
 (.bool true)) (x 3)) (q (s [(1,x 4)]) .ret) .skip) (q (s [(11,i 0),(10,n1 (.ld 3 true) (x 2))]) (.block 2 (.loop (q (.cond (b .lss (x 11) (i 3)) .skip
 (.exit 2)) (q (.block 3 (q (s [(5,n2 (.idx 3 1 false) (x 10) (x 11))]) (q (.hv [(13,ld (fa 2 (n1 .nilChk (x 0)))),(12,x 0)] [] [] (some 14) (.call true)
 (c2 (.cst (.func (.func 46) #[] #[])) (x 5))) (q (h 15 (.bSl [.int .u8 0] 1 [0]) (c1 (x 14))) (q (h 16 (.app 1 [.int .u8 0]) (c2 (x 13) (x 15))) (.hv [] [] []
 none (.st 1) (c2 (fa 2 (n1 .nilChk (x 12))) (x 16)))))))) (s [(11,b .add (x 11) (i 1))])))))))))))
def cf36:CF:=⟨1,17,[(.var 1)],bd36,.plain⟩
def tr36:List Nat:=[0,2,3,4,5,7,10,11,12,13,20,21,24,28,30,31,32]
def bd37:Stm:=
 q (s [(1,i 0)]) (q (s [(2,i 0)]) (.block 0 (.loop (q (.block 1 (q (s [(4,b .add (ld (fa 1 (n1 .nilChk (x 0)))) (b .quo (b .add (x 2) (i 5)) (i 8))),(3,b
 .add (ld (fa 1 (n1 .nilChk (x 0)))) (b .quo (x 2) (i 8)))]) (q (.cond (b .geq (x 4) (n1 .len (ld (fa 0 (n1 .nilChk (x 0)))))) (q (s [(1,i 10)]) .ret) .skip)
 (q (s [(5,b .shl (ld (n2 (.iAddr 1) (ld (fa 0 (n1 .nilChk (x 0)))) (x 3))) (.cst (.int .u64 8)))]) (q (.cond (b .gtr (x 4) (x 3)) (s [(5,b .or (x 5) (ld (n2
 (.iAddr 1) (ld (fa 0 (n1 .nilChk (x 0)))) (x 4))))]) .skip) (q (s [(6,b .and (b .shr (x 5) (b .sub (i 10) (b .rem (x 2) (i 8)))) (i 63))]) (q (.cond (b .eql
 (x 6) (i 31)) (q (s [(7,b .rem (b .sub (i 8) (b .rem (b .add (x 2) (i 6)) (i 8))) (i 8))]) (q (.cond (b .neq (b .and (ld (n2 (.iAddr 1) (ld (fa 0 (n1 .nilChk
 (x 0)))) (x 4))) (b .sub (b .shl (i 1) (x 7)) (i 1))) (i 0)) (q (s [(1,i 22)]) .ret) .skip) (q (.hv [] [] [] none (.st 1) (c2 (fa 1 (n1 .nilChk (x 0))) (b
 .add (x 4) (i 1)))) (q (s [(1,i 0)]) .ret)))) .skip) (q (.cond (b .lss (x 6) (i 32)) (s [(6,b .add (x 6) (i 64))]) .skip) (q (.hv [(9,ld (fa 2 (n1 .nilChk
 (x 0)))),(8,x 0)] [] [] (some 10) (.bSl [.int .u8 0] 1 [0]) (c1 (n1 (.cvt .u8) (x 6)))) (q (h 11 (.app 1 [.int .u8 0]) (c2 (x 9) (x 10))) (.hv [] [] [] none
 (.st 1) (c2 (fa 2 (n1 .nilChk (x 8))) (x 11))))))))))))) (s [(2,b .add (x 2) (i 6))])))))
def cf37:CF:=⟨1,12,[(.var 1)],bd37,.plain⟩
def tr37:List Nat:=[0,2,3,4,5,6,7,8,87,91,94,95]
def bd38:Stm:=
 q (s [(3,.cst (.slice none 0 0))]) (q (.block 0 (.cond (b .eql (x 2) (i 0)) (q (q (cl 4 47 (c2 (x 0) (x 1))) (s [(3,x 4)])) .ret) (.cond (b .lss (x 2) (i 9))
 (q (q (cl 5 48 (c (x 0) (c (x 1) (c3 (b .sub (x 2) (i 1)) (i 1) (.cst (.bool false)))))) (s [(3,x 5)])) .ret) (.cond (b .lss (x 2) (i 17)) (q (q (cl 6 48 (c
 (x 0) (c (x 1) (c3 (b .sub (x 2) (i 9)) (i 9) (.cst (.bool true)))))) (s [(3,x 6)])) .ret) (.cond (b .eql (x 2) (i 17)) (q (q (cl 7 49 (c2 (x 0) (x 1))) (s
 [(3,x 7)])) .ret) .skip))))) (q (q (cl 8 50 (c2 (x 0) (x 1))) (s [(3,x 8)])) .ret))
def cf38:CF:=⟨3,9,[(.var 3)],bd38,.plain⟩
def tr38:List Nat:=[0,1,2,6,12,20,28,34,37]
def bd39:Stm:=
 q (q (h 2 .box (c1 (x 1))) (s [(3,i 0)])) (q (q (.hv [(5,ld (n2 (.iAddrA 19 1) (n2 (.iAddr 19) (ld (fa 1 (n1 .nilChk (x 0)))) (ld (fa 5 (x 2)))) (ld (fa 6 (x
 2)))))] [] [] (some 4) (.call true) (c2 (.cst (.func (.func 51) #[] #[])) (n1 (.ld 7 true) (x 2)))) (s [(3,b .add (x 4) (x 5))])) .ret)
def cf39:CF:=⟨2,6,[(.var 3)],bd39,.plain⟩
def tr39:List Nat:=[0,1,3,4,6,17]
def bd40:Stm:=
 q (s [(2,i 0)]) (q (q (s [(9,i 0),(8,n1 .len (x 0)),(7,x 0)]) (.block 0 (.loop (q (.cond (b .lss (x 9) (x 8)) .skip (.exit 0)) (q (.block 1 (q (s [(4,ld
 (n2 (.iAddr 1) (x 7) (x 9))),(3,x 9)]) (q (.cond (b .geq (x 3) (n1 .len (x 1))) (q (s [(2,i 1)]) .ret) .skip) (q (s [(5,ld (n2 (.iAddr 1) (x 1) (x 3)))])
 (q (q (cl 10 52 (c2 (x 4) (x 5))) (s [(6,x 10)])) (.cond (b .neq (x 6) (i 0)) (q (s [(2,x 6)]) .ret) .skip)))))) (s [(9,b .add (x 9) (i 1))])))))) (q
 (.cond (b .lss (n1 .len (x 0)) (n1 .len (x 1))) (q (s [(2,i (-1))]) .ret) .skip) (q (s [(2,i 0)]) .ret)))
def cf40:CF:=⟨2,11,[(.var 2)],bd40,.plain⟩
def tr40:List Nat:=[0,1,4,5,6,7,8,9,10,11,26]
def bd41:Stm:=
 q (s [(2,.cst (.slice none 0 0))]) (q (s [(3,.cst (.slice none 0 0))]) (q (q (.hv [(8,b .lss (b .add (x 1) (i 1)) (n1 .len (x 0)))] [] [(b .lss (b .add (x 1)
 (i 1)) (n1 .len (x 0)),true)] (some 9) (.call false) (c2 (.cst (.func (.func 53) #[] #[])) (ld (n2 (.iAddr 1) (x 0) (x 1))))) (q (.hv [(10,p (x 8) (x 9)
 (.cst (.bool false)))] [] [(p (x 8) (x 9) (.cst (.bool false)),true)] (some 11) (.call false) (c2 (.cst (.func (.func 53) #[] #[])) (ld (n2 (.iAddr 1) (x 0)
 (b .add (x 1) (i 1)))))) (.cond (p (x 10) (x 11) (.cst (.bool false))) (q (.hv [(12,x 3)] [] [] (some 13) (.bSl [.int .i64 0,.int .i64 0,.int .i64 0,.int
 .i64 0,.int .i64 0,.int .i64 0,.int .i64 0,.int .i64 0,.bool false] 1 [0]) (c1 (.node (.build [.int .i64 0,.int .i64 0,.int .i64 0,.int .i64 0,.int
 .i64 0,.int .i64 0,.int .i64 0,.int .i64 0,.bool false] [(0,1),(1,1),(2,1),(3,1),(4,5)]) (c (b .add (b .add (i 130) (b .mul (i 10) (n1 (.cvt
 .i64) (b .sub (ld (n2 (.iAddr 1) (x 0) (x 1))) (.cst (.int .u8 48)))))) (n1 (.cvt .i64) (b .sub (ld (n2 (.iAddr 1) (x 0) (b .add (x 1) (i 1)))) (.cst (.int
 .u8 48))))) (c (i (-1)) (c3 (i (-1)) (i 1) (n1 (.build [.int .i64 0,.int .i64 0,.int .i64 0,.int .i64 0,.bool false] [(0,1)]) (b .add (x 1) (i 2)))))))))
 (q (h 14 (.app 9 [.int .i64 0,.int .i64 0,.int .i64 0,.int .i64 0,.int .i64 0,.int .i64 0,.int .i64 0,.int .i64 0,.bool false]) (c2 (x 12) (x 13))) (s
 [(3,x 14)]))) .skip))) (q (.cond (p (b .lss (x 1) (n1 .len (x 0))) (b .lss (ld (n2 (.iAddr 1) (x 0) (x 1))) (.cst (.int .u8 128))) (.cst (.bool false))) (q
 (.hv [(15,x 3)] [] [] (some 16) (.bSl [.int .i64 0,.int .i64 0,.int .i64 0,.int .i64 0,.int .i64 0,.int .i64 0,.int .i64 0,.int .i64 0,.bool false] 1
 [0]) (c1 (.node (.build [.int .i64 0,.int .i64 0,.int .i64 0,.int .i64 0,.int .i64 0,.int .i64 0,.int .i64 0,.int .i64 0,.bool false] [(0,1),(1,1),
 (2,1),(3,1),(4,5)]) (c (b .add (n1 (.cvt .i64) (ld (n2 (.iAddr 1) (x 0) (x 1)))) (i 1)) (c (i (-1)) (c3 (i (-1)) (i 1) (n1 (.build [.int .i64 0,.int
 .i64 0,.int .i64 0,.int .i64 0,.bool false] [(0,1)]) (b .add (x 1) (i 1))))))))) (q (h 17 (.app 9 [.int .i64 0,.int .i64 0,.int .i64 0,.int .i64 0,
 .int .i64 0,.int .i64 0,.int .i64 0,.int .i64 0,.bool false]) (c2 (x 15) (x 16))) (s [(3,x 17)]))) .skip) (q (.cond (p (b .lss (x 1) (n1 .len (x 0))) (b
 .geq (ld (n2 (.iAddr 1) (x 0) (x 1))) (.cst (.int .u8 128))) (.cst (.bool false))) (q (.hv [(18,x 3)] [] [] (some 19) (.bSl [.int .i64 0,.int .i64 0,.int
 .i64 0,.int .i64 0,.int .i64 0,.int .i64 0,.int .i64 0,.int .i64 0,.bool false] 1 [0]) (c1 (.node (.build [.int .i64 0,.int .i64 0,.int .i64 0,.int
 .i64 0,.int .i64 0,.int .i64 0,.int .i64 0,.int .i64 0,.bool false] [(0,1),(1,1),(2,1),(3,1),(4,5)]) (c (i 235) (c (b .sub (n1 (.cvt .i64) (ld
 (n2 (.iAddr 1) (x 0) (x 1)))) (i 127)) (c3 (i (-1)) (i 2) (n1 (.build [.int .i64 0,.int .i64 0,.int .i64 0,.int .i64 0,.bool false] [(0,1)]) (b .add (x
 1) (i 1))))))))) (q (h 20 (.app 9 [.int .i64 0,.int .i64 0,.int .i64 0,.int .i64 0,.int .i64 0,.int .i64 0,.int .i64 0,.int .i64 0,.bool false]) (c2
 (x 18) (x 19))) (s [(3,x 20)]))) .skip) (q (q (h 21 (.bSl [.int .i64 0] 5 [0,1,2,3,4]) (c (i 0) (c (i 230) (c3 (i 239) (i 238) (i 240))))) (s [(4,x
 21)])) (q (q (s [(5,i 1)]) (.block 0 (.loop (q (.cond (b .leq (x 5) (i 4)) .skip (.exit 0)) (q (.block 1 (q (.hv [(22,x 3)] [] [] (some 23) (.bSl [.int .i64
 0,.int .i64 0,.int .i64 0,.int .i64 0,.int .i64 0,.int .i64 0,.int .i64 0,.int .i64 0,.bool false] 1 [0]) (c1 (.node (.build [.int .i64 0,.int .i64
 0,.int .i64 0,.int .i64 0,.int .i64 0,.int .i64 0,.int .i64 0,.int .i64 0,.bool false] [(0,1),(1,1),(2,1),(3,1),(4,5)]) (c (ld (n2 (.iAddr 1)
 (x 4) (x 5))) (c (i (-1)) (c3 (i (-1)) (i 1) (n2 (.build [.int .i64 0,.int .i64 0,.int .i64 0,.int .i64 0,.bool false] [(0,1),(1,1)]) (x 1) (x
 5)))))))) (q (h 24 (.app 9 [.int .i64 0,.int .i64 0,.int .i64 0,.int .i64 0,.int .i64 0,.int .i64 0,.int .i64 0,.int .i64 0,.bool false]) (c2 (x 22)
 (x 23))) (s [(3,x 24)])))) (s [(5,b .add (x 5) (i 1))])))))) (q (q (s [(6,i 1)]) (.block 2 (.loop (q (.cond (p (b .leq (x 6) (i 1749)) (b .leq (b .add (x
 1) (x 6)) (n1 .len (x 0))) (.cst (.bool false))) .skip (.exit 2)) (q (.block 3 (q (q (.hv [(25,.node (.build [.int .i64 0,.int .i64 0,.int .i64 0,.int
 .i64 0,.int .i64 0,.int .i64 0,.int .i64 0,.int .i64 0,.bool false] [(0,1),(1,1),(2,1),(3,1),(4,5)]) (c (i 231) (c (x 6) (c3 (i (-1)) (b .add (i
 2) (x 6)) (n1 (.build [.int .i64 0,.int .i64 0,.int .i64 0,.int .i64 0,.bool false] [(0,1)]) (b .add (x 1) (x 6)))))))] [] [] (some 7) (.alloc [.int .i64
 0,.int .i64 0,.int .i64 0,.int .i64 0,.int .i64 0,.int .i64 0,.int .i64 0,.int .i64 0,.bool false]) .nil) (.hv [] [] [] none (.st 9) (c2 (x 7) (x
 25)))) (q (.cond (b .geq (x 6) (i 250)) (q (.hv [] [] [] none (.st 1) (c2 (fa 1 (x 7)) (b .add (b .quo (x 6) (i 250)) (i 249)))) (q (.hv [] [] [] none (.st 1)
 (c2 (fa 2 (x 7)) (b .rem (x 6) (i 250)))) (.hv [] [] [] none (.st 1) (c2 (fa 3 (x 7)) (b .add (i 3) (x 6)))))) .skip) (q (.hv [(26,x 3)] [] [] (some 27)
 (.bSl [.int .i64 0,.int .i64 0,.int .i64 0,.int .i64 0,.int .i64 0,.int .i64 0,.int .i64 0,.int .i64 0,.bool false] 1 [0]) (c1 (n1 (.ld 9 true) (x
 7)))) (q (h 28 (.app 9 [.int .i64 0,.int .i64 0,.int .i64 0,.int .i64 0,.int .i64 0,.int .i64 0,.int .i64 0,.int .i64 0,.bool false]) (c2 (x 26) (x
 27))) (s [(3,x 28)])))))) (s [(6,b .add (x 6) (i 1))])))))) (q (s [(2,x 3)]) .ret))))))))
def cf41:CF:=⟨2,29,[(.var 2)],bd41,.plain⟩
def tr41:List Nat:=[0,1,4,5,6,7,8,9,15,20,22,28,30,51,52,64,75,76,88,99,100,101,106,115,116,136,149,151,152]
def bd42:Stm:=
 q (q (h 2 .box (c1 (x 1))) (s [(3,.cst (.slice none 0 0))])) (q (s [(4,.cst (.slice none 0 0))]) (q (s [(5,i 0)]) (q (.cond (b .eql (ld (fa 2 (x 2))) (i 0))
 (q (q (.hv [(11,x 4)] [] [] (some 12) (.bSl [.int .i64 0,.int .i64 0,.int .i64 0,.int .i64 0,.int .i64 0,.int .i64 0,.int .i64 0,.int .i64 0,.bool
 false] 1 [0]) (c1 (.node (.build [.int .i64 0,.int .i64 0,.int .i64 0,.int .i64 0,.int .i64 0,.int .i64 0,.int .i64 0,.int .i64 0,.bool false] [(0,
 1),(1,1),(2,1),(3,1),(4,5)]) (c (i 254) (c (i (-1)) (c3 (i (-1)) (i 1) (n1 (.build [.int .i64 0,.int .i64 0,.int .i64 0,.int .i64 0,.bool false]
 [(0,1)]) (ld (fa 0 (x 2)))))))))) (q (h 13 (.app 9 [.int .i64 0,.int .i64 0,.int .i64 0,.int .i64 0,.int .i64 0,.int .i64 0,.int .i64 0,.int .i64 0,
 .bool false]) (c2 (x 11) (x 12))) (s [(4,x 13)]))) (s [(5,i 2)])) .skip) (q (s [(6,b .rem (b .add (ld (fa 2 (x 2))) (i 1)) (i 3))]) (q (q (s [(7,i 0)])
 (.block 0 (.loop (q (.cond (b .lss (x 7) (i 40)) .skip (.exit 0)) (q (.block 1 (q (q (.hv [(14,.node (.build [.int .i64 0,.int .i64 0,.int .i64 0,.int
 .i64 0,.bool false] [(0,1),(1,1),(2,1)]) (c3 (b .add (ld (fa 0 (x 2))) (i 1)) (ld (fa 1 (x 2))) (x 6)))] [] [] (some 8) (.alloc [.int .i64 0,.int .i64
 0,.int .i64 0,.int .i64 0,.bool false]) .nil) (.hv [] [] [] none (.st 5) (c2 (x 8) (x 14)))) (q (q (cl 15 54 (c1 (x 7))) (s [(9,x 15)])) (q (.cond (b .neq
 (ld (fa 1 (x 2))) (i 3)) (q (cl 16 55 (c3 (ld (fa 1 (x 2))) (ld (fa 3 (x 2))) (x 7))) (s [(9,x 16)])) .skip) (q (.cond (p (ld (fa 4 (x 2))) (b .geq (x 9) (i
 0)) (.cst (.bool false))) (s [(9,b .add (x 9) (i 128))]) .skip) (q (s [(10,p (p (b .geq (x 9) (i 0)) (b .lss (ld (fa 0 (x 2))) (n1 .len (x 0))) (.cst (.bool
 false))) (b .eql (n1 (.cvt .i64) (ld (n2 (.iAddr 1) (x 0) (ld (fa 0 (x 2)))))) (x 9)) (.cst (.bool false)))]) (q (.cond (p (p (b .neq (ld (fa 1 (x 2))) (i 3))
 (b .eql (ld (fa 3 (x 2))) (i 0)) (.cst (.bool false))) (b .lss (x 7) (i 3)) (.cst (.bool false))) (q (.hv [] [] [] none (.st 5) (c2 (x 8) (.node (.build [.int
 .i64 0,.int .i64 0,.int .i64 0,.int .i64 0,.bool false] [(0,1),(1,1),(2,1),(3,1),(4,1)]) (c (ld (fa 0 (x 2))) (c (ld (fa 1 (x 2))) (c3 (x 6) (b
 .add (x 7) (i 1)) (ld (fa 4 (x 2))))))))) (s [(10,.cst (.bool true))])) .skip) (q (.cond (p (p (p (b .neq (ld (fa 1 (x 2))) (i 3)) (b .eql (ld (fa 3 (x 2)))
 (i 2)) (.cst (.bool false))) (b .eql (x 7) (i 30)) (.cst (.bool false))) (n1 (.un .not) (ld (fa 4 (x 2)))) (.cst (.bool false))) (q (.hv [] [] [] none (.st 5)
 (c2 (x 8) (.node (.build [.int .i64 0,.int .i64 0,.int .i64 0,.int .i64 0,.bool false] [(0,1),(1,1),(2,1),(4,1)]) (c (ld (fa 0 (x 2))) (c3 (ld (fa
 1 (x 2))) (x 6) (.cst (.bool true))))))) (s [(10,.cst (.bool true))])) .skip) (.cond (x 10) (q (.hv [(17,x 4)] [] [] (some 18) (.bSl [.int .i64 0,.int .i64
 0,.int .i64 0,.int .i64 0,.int .i64 0,.int .i64 0,.int .i64 0,.int .i64 0,.bool false] 1 [0]) (c1 (.node (.build [.int .i64 0,.int .i64 0,.int .i64
 0,.int .i64 0,.int .i64 0,.int .i64 0,.int .i64 0,.int .i64 0,.bool false] [(0,1),(1,1),(2,1),(3,1),(4,5)]) (c (x 7) (c (i (-1)) (c3 (i (-1))
 (x 5) (n1 (.ld 5 true) (x 8)))))))) (q (h 19 (.app 9 [.int .i64 0,.int .i64 0,.int .i64 0,.int .i64 0,.int .i64 0,.int .i64 0,.int .i64 0,.int .i64 0,
 .bool false]) (c2 (x 17) (x 18))) (s [(4,x 19)]))) .skip))))))))) (s [(7,b .add (x 7) (i 1))])))))) (q (s [(3,x 4)]) .ret))))))
def cf42:CF:=⟨2,20,[(.var 3)],bd42,.plain⟩
def tr42:List Nat:=[0,1,3,4,5,6,7,8,9,10,11,15,20,21,36,38,47,121,126,127]
def bd43:Stm:=
 q (q (h 1 (.alloc [.int .i64 0,.int .i64 0,.int .i64 0]) .nil) (s [(3,i 0),(2,.cst (.bool false))])) (q (.cond (b .geq (ld (fa 1 (n1 .nilChk (x 0)))) (n1
 .len (ld (fa 0 (n1 .nilChk (x 0)))))) (q (q (.hv [] [] [] none (.st 3) (c2 (x 1) (n1 (.ld 3 true) (x 1)))) (s [(3,i 10),(2,.cst (.bool false))])) .ret)
 .skip) (q (.cond (b .eql (ld (n2 (.iAddr 1) (ld (fa 0 (n1 .nilChk (x 0)))) (ld (fa 1 (n1 .nilChk (x 0)))))) (i 254)) (q (.hv [] [] [] none (.st 1) (c2 (fa 1
 (n1 .nilChk (x 0))) (b .add (ld (fa 1 (n1 .nilChk (x 0)))) (i 1)))) (q (q (.hv [] [] [] none (.st 3) (c2 (x 1) (n1 (.ld 3 true) (x 1)))) (s [(3,i 0),(2,
 .cst (.bool true))])) .ret)) .skip) (q (.cond (b .geq (b .add (ld (fa 1 (n1 .nilChk (x 0)))) (i 1)) (n1 .len (ld (fa 0 (n1 .nilChk (x 0)))))) (q (q (.hv [] []
 [] none (.st 3) (c2 (x 1) (n1 (.ld 3 true) (x 1)))) (s [(3,i 10),(2,.cst (.bool false))])) .ret) .skip) (q (s [(4,b .sub (b .add (b .mul (i 256) (ld (n2
 (.iAddr 1) (ld (fa 0 (n1 .nilChk (x 0)))) (ld (fa 1 (n1 .nilChk (x 0))))))) (ld (n2 (.iAddr 1) (ld (fa 0 (n1 .nilChk (x 0)))) (b .add (ld (fa 1 (n1 .nilChk (x
 0)))) (i 1))))) (i 1))]) (q (.cond (p (b .lss (x 4) (i 0)) (.cst (.bool true)) (b .geq (x 4) (i 64000))) (q (q (.hv [] [] [] none (.st 3) (c2 (x 1) (n1 (.ld 3
 true) (x 1)))) (s [(3,i 22),(2,.cst (.bool false))])) .ret) .skip) (q (.hv [] [] [] none (.st 1) (c2 (fa 1 (n1 .nilChk (x 0))) (b .add (ld (fa 1 (n1
 .nilChk (x 0)))) (i 2)))) (q (q (.hv [] [] [] none (.st 3) (c2 (x 1) (.node (.build [.int .i64 0,.int .i64 0,.int .i64 0] [(0,1),(1,1),(2,1)]) (c3 (b
 .quo (x 4) (i 1600)) (b .rem (b .quo (x 4) (i 40)) (i 40)) (b .rem (x 4) (i 40)))))) (s [(3,i 0),(2,.cst (.bool false))])) .ret)))))))
def cf43:CF:=⟨1,5,[(.node (.ld 3 true) (.cons (.var 1) .nil)),(.var 2),(.var 3)],bd43,.plain⟩
def tr43:List Nat:=[0,2,3,4,5]
def bd44:Stm:=
 q (s [(4,.cst (.bool false)),(3,.cst (.int .u8 0))]) (q (s [(5,i (-1))]) (q (.block 0 (.cond (p (b .eql (x 1) (i 0)) (b .eql (x 2) (i 3)) (.cst (.bool
 false))) (s [(5,i 32)]) (.cond (p (p (b .eql (x 1) (i 0)) (b .geq (x 2) (i 4)) (.cst (.bool false))) (b .leq (x 2) (i 13)) (.cst (.bool false))) (s [(5,b
 .sub (b .add (i 48) (x 2)) (i 4))]) (.cond (p (b .eql (x 1) (i 0)) (b .geq (x 2) (i 14)) (.cst (.bool false))) (q (s [(5,b .sub (b .add (i 65) (x 2)) (i
 14))]) (.cond (x 0) (s [(5,b .sub (b .add (i 97) (x 2)) (i 14))]) .skip)) (.cond (p (b .eql (x 1) (i 1)) (b .leq (x 2) (i 31)) (.cst (.bool false))) (s [(5,
 x 2)]) (.cond (p (b .eql (x 1) (i 2)) (b .leq (x 2) (i 14)) (.cst (.bool false))) (s [(5,b .add (i 33) (x 2))]) (.cond (p (b .eql (x 1) (i 2)) (b .leq (x 2)
 (i 21)) (.cst (.bool false))) (s [(5,b .sub (b .add (i 58) (x 2)) (i 15))]) (.cond (p (b .eql (x 1) (i 2)) (b .leq (x 2) (i 26)) (.cst (.bool false))) (s
 [(5,b .sub (b .add (i 91) (x 2)) (i 22))]) (.cond (p (b .eql (x 1) (i 3)) (b .leq (x 2) (i 31)) (.cst (.bool false))) (q (s [(5,b .add (i 96) (x 2))])
 (.cond (p (p (x 0) (b .geq (x 2) (i 1)) (.cst (.bool false))) (b .leq (x 2) (i 26)) (.cst (.bool false))) (s [(5,b .sub (b .add (i 65) (x 2)) (i 1))])
 .skip)) .skip))))))))) (q (.cond (b .lss (x 5) (i 0)) (q (s [(4,.cst (.bool false)),(3,.cst (.int .u8 0))]) .ret) .skip) (q (s [(4,.cst (.bool true)),(3,
 n1 (.cvt .u8) (x 5))]) .ret))))
def cf44:CF:=⟨3,6,[(.var 3),(.var 4)],bd44,.plain⟩
def tr44:List Nat:=[0,1,2,6,7,8]
def bd45:Stm:=
 q (s [(2,.cst (.bool false)),(1,i 0)]) (q (.cond (b .geq (ld (fa 1 (n1 .nilChk (x 0)))) (n1 .len (ld (fa 0 (n1 .nilChk (x 0)))))) (q (s [(2,.cst (.bool
 false)),(1,i 0)]) .ret) .skip) (q (q (.hv [(4,ld (n2 (.iAddr 1) (ld (fa 0 (n1 .nilChk (x 0)))) (ld (fa 1 (n1 .nilChk (x 0))))))] [] [] (some 5) (.call
 true) (c2 (.cst (.func (.func 27) #[] #[])) (ld (fa 1 (n1 .nilChk (x 0)))))) (s [(3,b .rem (b .add (b .sub (x 4) (x 5)) (i 256)) (i 256))])) (q (.hv [] [] []
 none (.st 1) (c2 (fa 1 (n1 .nilChk (x 0))) (b .add (ld (fa 1 (n1 .nilChk (x 0)))) (i 1)))) (q (s [(2,.cst (.bool true)),(1,x 3)]) .ret))))
def cf45:CF:=⟨1,6,[(.var 1),(.var 2)],bd45,.plain⟩
def tr45:List Nat:=[0,2,3,4,24,29]
def bd46:Stm:=
 q (s [(1,.cst (.int .u8 0))]) (q (.block 0 (.cond (b .geq (x 0) (i 14)) (q (s [(1,n1 (.cvt .u8) (b .sub (b .add (i 65) (x 0)) (i 14)))]) .ret) (.cond (b .geq
 (x 0) (i 4)) (q (s [(1,n1 (.cvt .u8) (b .sub (b .add (i 48) (x 0)) (i 4)))]) .ret) .skip))) (q (s [(1,n2 (.idx 4 1 false) (.node (.build [.int .u8 0,.int
 .u8 0,.int .u8 0,.int .u8 0] [(0,1),(1,1),(2,1),(3,1)]) (c (.cst (.int .u8 13)) (c3 (.cst (.int .u8 42)) (.cst (.int .u8 62)) (.cst (.int .u8 32)))))
 (x 0))]) .ret))
def cf46:CF:=⟨1,2,[(.var 1)],bd46,.plain⟩
def tr46:List Nat:=[0,2]
def bd47:Stm:=
 q (s [(2,.cst (.slice none 0 0))]) (q (q (h 7 (.bSl [.int .i64 0,.int .i64 0,.int .i64 0,.int .i64 0,.int .i64 0,.int .i64 0,.int .i64 0] 4 [0,1,2,3])
 (c (.node (.build [.int .i64 0,.int .i64 0,.int .i64 0,.int .i64 0,.int .i64 0,.int .i64 0,.int .i64 0] [(0,3),(3,1),(5,1),(6,1)]) (c (n1 (.build
 [.int .i64 0,.int .i64 0,.int .i64 0] [(0,1)]) (i 230)) (c3 (i 1) (x 1) (i 1)))) (c3 (.node (.build [.int .i64 0,.int .i64 0,.int .i64 0,.int .i64 0,
 .int .i64 0,.int .i64 0,.int .i64 0] [(0,3),(3,1),(5,1),(6,1)]) (c (n1 (.build [.int .i64 0,.int .i64 0,.int .i64 0] [(0,1)]) (i 239)) (c3 (i 1)
 (x 1) (i 9)))) (.node (.build [.int .i64 0,.int .i64 0,.int .i64 0,.int .i64 0,.int .i64 0,.int .i64 0,.int .i64 0] [(0,3),(3,1),(5,1),(6,1)]) (c
 (n1 (.build [.int .i64 0,.int .i64 0,.int .i64 0] [(0,1)]) (i 238)) (c3 (i 1) (x 1) (i 17)))) (.node (.build [.int .i64 0,.int .i64 0,.int .i64 0,.int
 .i64 0,.int .i64 0,.int .i64 0,.int .i64 0] [(0,3),(3,1),(5,1),(6,1)]) (c (n1 (.build [.int .i64 0,.int .i64 0,.int .i64 0] [(0,1)]) (i 240)) (c3
 (i 1) (x 1) (i 18))))))) (s [(3,x 7)])) (q (s [(4,n2 (.sl 1 true false false) (ld (fa 0 (n1 .nilChk (x 0)))) (x 1))]) (q (.cond (b .eql (n1 .len (x 4)) (i
 0)) (q (s [(2,x 3)]) .ret) .skip) (q (s [(5,n1 (.cvt .i64) (ld (n2 (.iAddr 1) (x 4) (i 0))))]) (q (.cond (b .lss (x 5) (i 128)) (q (.hv [(8,x 3)] [] []
 (some 9) (.bSl [.int .i64 0,.int .i64 0,.int .i64 0,.int .i64 0,.int .i64 0,.int .i64 0,.int .i64 0] 1 [0]) (c1 (.node (.build [.int .i64 0,.int .i64
 0,.int .i64 0,.int .i64 0,.int .i64 0,.int .i64 0,.int .i64 0] [(0,3),(3,1),(5,1)]) (c3 (n1 (.build [.int .i64 0,.int .i64 0,.int .i64 0] [(0,
 1)]) (b .add (x 5) (i 1))) (i 1) (b .add (x 1) (i 1)))))) (q (h 10 (.app 7 [.int .i64 0,.int .i64 0,.int .i64 0,.int .i64 0,.int .i64 0,.int .i64 0,.int
 .i64 0]) (c2 (x 8) (x 9))) (s [(3,x 10)]))) (q (.hv [(11,x 3)] [] [] (some 12) (.bSl [.int .i64 0,.int .i64 0,.int .i64 0,.int .i64 0,.int .i64 0,.int
 .i64 0,.int .i64 0] 1 [0]) (c1 (.node (.build [.int .i64 0,.int .i64 0,.int .i64 0,.int .i64 0,.int .i64 0,.int .i64 0,.int .i64 0] [(0,3),(3,1),
 (5,1)]) (c3 (n2 (.build [.int .i64 0,.int .i64 0,.int .i64 0] [(0,1),(1,1)]) (i 235) (b .sub (x 5) (i 127))) (i 2) (b .add (x 1) (i 1)))))) (q (h 13
 (.app 7 [.int .i64 0,.int .i64 0,.int .i64 0,.int .i64 0,.int .i64 0,.int .i64 0,.int .i64 0]) (c2 (x 11) (x 12))) (s [(3,x 13)])))) (q (q (.hv [(14,b
 .geq (n1 .len (x 4)) (i 2))] [] [(b .geq (n1 .len (x 4)) (i 2),true)] (some 15) (.call false) (c2 (.cst (.func (.func 56) #[] #[])) (ld (n2 (.iAddr 1) (x 4)
 (i 0))))) (q (.hv [(16,p (x 14) (x 15) (.cst (.bool false)))] [] [(p (x 14) (x 15) (.cst (.bool false)),true)] (some 17) (.call false) (c2 (.cst (.func
 (.func 56) #[] #[])) (ld (n2 (.iAddr 1) (x 4) (i 1))))) (.cond (p (x 16) (x 17) (.cst (.bool false))) (q (s [(6,b .sub (b .add (b .mul (i 10) (b .sub (x 5)
 (i 48))) (n1 (.cvt .i64) (ld (n2 (.iAddr 1) (x 4) (i 1))))) (i 48))]) (q (.hv [(18,x 3)] [] [] (some 19) (.bSl [.int .i64 0,.int .i64 0,.int .i64 0,.int
 .i64 0,.int .i64 0,.int .i64 0,.int .i64 0] 1 [0]) (c1 (.node (.build [.int .i64 0,.int .i64 0,.int .i64 0,.int .i64 0,.int .i64 0,.int .i64 0,.int
 .i64 0] [(0,3),(3,1),(5,1)]) (c3 (n1 (.build [.int .i64 0,.int .i64 0,.int .i64 0] [(0,1)]) (b .add (i 130) (x 6))) (i 1) (b .add (x 1) (i 2)))))) (q
 (h 20 (.app 7 [.int .i64 0,.int .i64 0,.int .i64 0,.int .i64 0,.int .i64 0,.int .i64 0,.int .i64 0]) (c2 (x 18) (x 19))) (s [(3,x 20)])))) .skip))) (q
 (q (.hv [(21,x 3)] [] [] (some 22) (.call false) (c3 (.cst (.func (.func 57) #[] #[])) (x 0) (x 1))) (q (h 23 (.bSl [.int .i64 0,.int .i64 0,.int .i64 0,
 .int .i64 0,.int .i64 0,.int .i64 0,.int .i64 0] 1 [0]) (c1 (x 22))) (q (h 24 (.app 7 [.int .i64 0,.int .i64 0,.int .i64 0,.int .i64 0,.int .i64 0,
 .int .i64 0,.int .i64 0]) (c2 (x 21) (x 23))) (s [(2,x 24)])))) .ret)))))))
def cf47:CF:=⟨2,25,[(.var 2)],bd47,.plain⟩
def tr47:List Nat:=[0,1,4,5,6,7,8,21,38,45,46,47,54,55,59,63,65,69,80,87,88,89,92,93,94]
def bd48:Stm:=
 q (s [(5,.cst (.slice none 0 0))]) (q (q (h 12 (.bSl [.int .i64 0,.int .i64 0,.int .i64 0,.int .i64 0,.int .i64 0,.int .i64 0,.int .i64 0] 1 [0]) (c1
 (.node (.build [.int .i64 0,.int .i64 0,.int .i64 0,.int .i64 0,.int .i64 0,.int .i64 0,.int .i64 0] [(0,3),(3,1),(5,1),(6,1)]) (c (n1 (.build
 [.int .i64 0,.int .i64 0,.int .i64 0] [(0,1)]) (i 254)) (c3 (i 1) (x 1) (i 0)))))) (s [(6,x 12)])) (q (q (.hv [(13,.node (.build [.int .i64 0,.int .i64
 0,.bool false] [(0,1),(1,1),(2,1)]) (c3 (x 1) (b .rem (x 2) (i 4)) (b .geq (x 2) (i 4))))] [] [] (some 7) (.alloc [.int .i64 0,.int .i64 0,.bool
 false]) .nil) (.hv [] [] [] none (.st 3) (c2 (x 7) (x 13)))) (q (q (q (cl 14 58 (c3 (x 0) (n1 (.ld 3 true) (x 7)) (x 4))) (s [(16,i 0),(15,n1 .len (x
 14))])) (.block 0 (.loop (q (.cond (b .lss (x 16) (x 15)) .skip (.exit 0)) (q (.block 1 (q (q (.hv [(17,n1 (.ld 4 true) (n2 (.iAddr 4) (x 14) (x 16)))] [] []
 (some 8) (.alloc [.int .i64 0,.int .i64 0,.int .i64 0,.bool false]) .nil) (.hv [] [] [] none (.st 4) (c2 (x 8) (x 17)))) (q (q (cl 18 58 (c3 (x 0) (n1 (.ld
 3 true) (fa 1 (x 8))) (x 4))) (s [(20,i 0),(19,n1 .len (x 18))])) (.block 2 (.loop (q (.cond (b .lss (x 20) (x 19)) .skip (.exit 2)) (q (.block 3 (q (q
 (.hv [(21,n1 (.ld 4 true) (n2 (.iAddr 4) (x 18) (x 20)))] [] [] (some 9) (.alloc [.int .i64 0,.int .i64 0,.int .i64 0,.bool false]) .nil) (.hv [] [] []
 none (.st 4) (c2 (x 9) (x 21)))) (q (q (cl 22 58 (c3 (x 0) (n1 (.ld 3 true) (fa 1 (x 9))) (x 4))) (s [(24,i 0),(23,n1 .len (x 22))])) (.block 4 (.loop (q
 (.cond (b .lss (x 24) (x 23)) .skip (.exit 4)) (q (.block 5 (q (q (.hv [(25,n1 (.ld 4 true) (n2 (.iAddr 4) (x 22) (x 24)))] [] [] (some 10) (.alloc [.int
 .i64 0,.int .i64 0,.int .i64 0,.bool false]) .nil) (.hv [] [] [] none (.st 4) (c2 (x 10) (x 25)))) (q (s [(11,b .add (x 3) (ld (fa 1 (fa 1 (x 10)))))]) (q
 (.cond (ld (fa 2 (fa 1 (x 10)))) (s [(11,b .add (x 11) (i 4))]) .skip) (q (.hv [(26,x 6)] [] [] (some 27) (.call false) (c (.cst (.func (.func 59) #[] #[]))
 (c (ld (fa 0 (x 8))) (c (ld (fa 0 (x 9))) (c3 (ld (fa 0 (x 10))) (ld (fa 0 (fa 1 (x 10)))) (x 11)))))) (q (h 28 (.bSl [.int .i64 0,.int .i64 0,.int .i64 0,
 .int .i64 0,.int .i64 0,.int .i64 0,.int .i64 0] 1 [0]) (c1 (x 27))) (q (h 29 (.app 7 [.int .i64 0,.int .i64 0,.int .i64 0,.int .i64 0,.int .i64 0,
 .int .i64 0,.int .i64 0]) (c2 (x 26) (x 28))) (s [(6,x 29)])))))))) (s [(24,b .add (x 24) (i 1))])))))))) (s [(20,b .add (x 20) (i 1))])))))))) (s [(16,b
 .add (x 16) (i 1))])))))) (q (s [(5,x 6)]) .ret))))
def cf48:CF:=⟨5,30,[(.var 5)],bd48,.plain⟩
def tr48:List Nat:=[0,1,2,3,4,10,11,12,14,16,18,19,23,29,33,34,35,38,43,44,45,48,53,54,55,58,69,80,81,82]
def bd49:Stm:=
 q (s [(2,.cst (.slice none 0 0))]) (q (q (h 6 (.bSl [.int .i64 0,.int .i64 0,.int .i64 0,.int .i64 0,.int .i64 0,.int .i64 0,.int .i64 0] 1 [0]) (c1
 (.node (.build [.int .i64 0,.int .i64 0,.int .i64 0,.int .i64 0,.int .i64 0,.int .i64 0,.int .i64 0] [(0,3),(3,1),(5,1),(6,1)]) (c (n1 (.build
 [.int .i64 0,.int .i64 0,.int .i64 0] [(0,1)]) (i 254)) (c3 (i 1) (x 1) (i 0)))))) (s [(3,x 6)])) (q (.cond (b .lss (b .sub (n1 .len (ld (fa 0 (n1 .nilChk
 (x 0))))) (x 1)) (i 3)) (q (s [(2,x 3)]) .ret) .skip) (q (h 4 (.alloc [.int .i64 0,.int .i64 0,.int .i64 0]) .nil) (q (q (s [(7,i 0)]) (.block 0 (.loop (q
 (.cond (b .lss (x 7) (i 3)) .skip (.exit 0)) (q (.block 1 (q (s [(5,x 7)]) (q (q (.hv [(8,x 5)] [] [] (some 9) (.call false) (c2 (.cst (.func (.func 60) #[]
 #[])) (ld (n2 (.iAddr 1) (ld (fa 0 (n1 .nilChk (x 0)))) (b .add (x 1) (x 5)))))) (.hv [] [] [] none (.st 1) (c2 (n2 (.iAddrA 3 1) (x 4) (x 8)) (x 9)))) (.cond
 (b .lss (ld (n2 (.iAddrA 3 1) (x 4) (x 5))) (i 0)) (q (s [(2,x 3)]) .ret) .skip)))) (s [(7,b .add (x 7) (i 1))])))))) (q (q (.hv [(10,x 3)] [] [] (some 11)
 (.call false) (c (.cst (.func (.func 59) #[] #[])) (c (ld (n2 (.iAddrA 3 1) (x 4) (i 0))) (c (ld (n2 (.iAddrA 3 1) (x 4) (i 1))) (c3 (ld (n2 (.iAddrA 3 1) (x
 4) (i 2))) (b .add (x 1) (i 3)) (i 17)))))) (q (h 12 (.bSl [.int .i64 0,.int .i64 0,.int .i64 0,.int .i64 0,.int .i64 0,.int .i64 0,.int .i64 0] 1 [0])
 (c1 (x 11))) (q (h 13 (.app 7 [.int .i64 0,.int .i64 0,.int .i64 0,.int .i64 0,.int .i64 0,.int .i64 0,.int .i64 0]) (c2 (x 10) (x 12))) (s [(2,x
 13)])))) .ret)))))
def cf49:CF:=⟨2,14,[(.var 2)],bd49,.plain⟩
def tr49:List Nat:=[0,1,4,5,6,7,11,21,24,34,42,51,52,53]
def bd50:Stm:=
 q (s [(2,.cst (.slice none 0 0))]) (q (s [(3,.cst (.slice none 0 0))]) (q (s [(4,i 0)]) (q (q (s [(7,i 0)]) (.block 0 (.loop (q (.cond (b .lss (x 7) (i 4))
 .skip (.exit 0)) (q (.block 1 (q (s [(5,x 7)]) (q (q (.hv [(8,x 3)] [] [] (some 9) (.call false) (c (.cst (.func (.func 61) #[] #[])) (c (b .or (b .shl (x
 4) (.cst (.int .u64 6))) (i 31)) (c3 (b .add (x 5) (i 1)) (b .add (x 1) (x 5)) (i 0))))) (q (h 10 (.bSl [.int .i64 0,.int .i64 0,.int .i64 0,.int .i64 0,
 .int .i64 0,.int .i64 0,.int .i64 0] 1 [0]) (c1 (x 9))) (q (h 11 (.app 7 [.int .i64 0,.int .i64 0,.int .i64 0,.int .i64 0,.int .i64 0,.int .i64 0,.int
 .i64 0]) (c2 (x 8) (x 10))) (s [(3,x 11)])))) (q (.cond (b .geq (b .add (x 1) (x 5)) (n1 .len (ld (fa 0 (n1 .nilChk (x 0)))))) (q (s [(2,x 3)]) .ret) .skip)
 (q (s [(6,ld (n2 (.iAddr 1) (ld (fa 0 (n1 .nilChk (x 0)))) (b .add (x 1) (x 5))))]) (q (.cond (p (b .lss (x 6) (.cst (.int .u8 32))) (.cst (.bool true)) (b
 .gtr (x 6) (.cst (.int .u8 94)))) (q (s [(2,x 3)]) .ret) .skip) (s [(4,b .or (b .shl (x 4) (.cst (.int .u64 6))) (b .and (n1 (.cvt .i64) (x 6)) (i
 63)))]))))))) (s [(7,b .add (x 7) (i 1))])))))) (q (q (.hv [(12,x 3)] [] [] (some 13) (.call false) (c (.cst (.func (.func 61) #[] #[])) (c (x 4) (c3 (i 4)
 (b .add (x 1) (i 4)) (i 18))))) (q (h 14 (.bSl [.int .i64 0,.int .i64 0,.int .i64 0,.int .i64 0,.int .i64 0,.int .i64 0,.int .i64 0] 1 [0]) (c1 (x 13)))
 (q (h 15 (.app 7 [.int .i64 0,.int .i64 0,.int .i64 0,.int .i64 0,.int .i64 0,.int .i64 0,.int .i64 0]) (c2 (x 12) (x 14))) (s [(2,x 15)])))) .ret))))
def cf50:CF:=⟨2,16,[(.var 2)],bd50,.plain⟩
def tr50:List Nat:=[0,1,4,5,6,7,8,9,12,21,22,23,57,61,62,63]
def bd51:Stm:=
 q (q (h 1 .box (c1 (x 0))) (s [(2,i 0)])) (q (s [(2,b .add (ld (fa 3 (x 1))) (ld (fa 4 (x 1))))]) .ret)
def cf51:CF:=⟨1,3,[(.var 2)],bd51,.plain⟩
def tr51:List Nat:=[0,1,2]
def bd52:Stm:=
 q (s [(2,i 0)]) (q (q (cl 5 62 (c1 (x 0))) (s [(3,x 5)])) (q (q (cl 6 62 (c1 (x 1))) (s [(4,x 6)])) (q (.cond (x 3) (q (.cond (x 4) (q (s [(2,i 0)]) .ret)
 .skip) (q (s [(2,i (-1))]) .ret)) .skip) (q (.cond (x 4) (q (s [(2,i 1)]) .ret) .skip) (q (.cond (b .lss (x 0) (x 1)) (q (s [(2,i (-1))]) .ret) .skip) (q
 (.cond (b .gtr (x 0) (x 1)) (q (s [(2,i 1)]) .ret) .skip) (q (s [(2,i 0)]) .ret)))))))
def cf52:CF:=⟨2,7,[(.var 2)],bd52,.plain⟩
def tr52:List Nat:=[0,1,4,5,6,8,10]
def bd53:Stm:=
 q (s [(1,.cst (.bool false))]) (q (s [(1,p (b .geq (x 0) (.cst (.int .u8 48))) (b .leq (x 0) (.cst (.int .u8 57))) (.cst (.bool false)))]) .ret)
def cf53:CF:=⟨1,2,[(.var 1)],bd53,.plain⟩
def tr53:List Nat:=[0,2]
def bd54:Stm:=
 q (s [(1,i 0)]) (q (.cond (b .lss (x 0) (i 4)) (q (q (h 2 (.bSl [.int .i64 0] 4 [0,1,2,3]) (c (i 13) (c3 (i 42) (i 62) (i 32)))) (s [(1,ld (n2 (.iAddr 1)
 (x 2) (x 0)))])) .ret) .skip) (q (q (cl 3 55 (c3 (i 1) (i 0) (x 0))) (s [(1,x 3)])) .ret))
def cf54:CF:=⟨1,4,[(.var 1)],bd54,.plain⟩
def tr54:List Nat:=[0,2,5,10]
def bd55:Stm:=
 q (s [(3,i 0)]) (q (.block 0 (.cond (p (b .eql (x 1) (i 0)) (b .eql (x 2) (i 3)) (.cst (.bool false))) (q (s [(3,i 32)]) .ret) (.cond (p (p (b .eql (x 1) (i
 0)) (b .geq (x 2) (i 4)) (.cst (.bool false))) (b .leq (x 2) (i 13)) (.cst (.bool false))) (q (s [(3,b .sub (b .add (i 48) (x 2)) (i 4))]) .ret) (.cond (p (p
 (b .eql (x 1) (i 0)) (b .geq (x 2) (i 14)) (.cst (.bool false))) (b .eql (x 0) (i 1)) (.cst (.bool false))) (q (s [(3,b .sub (b .add (i 65) (x 2)) (i 14))])
 .ret) (.cond (p (b .eql (x 1) (i 0)) (b .geq (x 2) (i 14)) (.cst (.bool false))) (q (s [(3,b .sub (b .add (i 97) (x 2)) (i 14))]) .ret) (.cond (p (b .eql (x
 1) (i 1)) (b .leq (x 2) (i 31)) (.cst (.bool false))) (q (s [(3,x 2)]) .ret) (.cond (p (b .eql (x 1) (i 2)) (b .leq (x 2) (i 14)) (.cst (.bool false))) (q (s
 [(3,b .add (i 33) (x 2))]) .ret) (.cond (p (b .eql (x 1) (i 2)) (b .leq (x 2) (i 21)) (.cst (.bool false))) (q (s [(3,b .sub (b .add (i 58) (x 2)) (i 15))])
 .ret) (.cond (p (b .eql (x 1) (i 2)) (b .leq (x 2) (i 26)) (.cst (.bool false))) (q (s [(3,b .sub (b .add (i 91) (x 2)) (i 22))]) .ret) (.cond (p (p (p (b
 .eql (x 1) (i 3)) (b .eql (x 0) (i 2)) (.cst (.bool false))) (b .geq (x 2) (i 1)) (.cst (.bool false))) (b .leq (x 2) (i 26)) (.cst (.bool false))) (q (s [(3,
 b .sub (b .add (i 65) (x 2)) (i 1))]) .ret) (.cond (p (b .eql (x 1) (i 3)) (b .leq (x 2) (i 31)) (.cst (.bool false))) (q (s [(3,b .add (i 96) (x 2))]) .ret)
 .skip))))))))))) (q (s [(3,i (-1))]) .ret))
def cf55:CF:=⟨3,4,[(.var 3)],bd55,.plain⟩
def tr55:List Nat:=[0,1,2,6]
def bd56:Stm:=
 q (s [(1,.cst (.bool false))]) (q (s [(1,p (b .geq (x 0) (.cst (.int .u8 48))) (b .leq (x 0) (.cst (.int .u8 57))) (.cst (.bool false)))]) .ret)
def cf56:CF:=⟨1,2,[(.var 1)],bd56,.plain⟩
def tr56:List Nat:=[0,2]
def bd57:Stm:=
 q (h 2 (.alloc [.int .i64 0,.int .i64 0,.int .i64 0,.int .i64 0,.int .i64 0,.int .i64 0,.int .i64 0]) .nil) (q (h 3 (.alloc [.int .i64 0,.int .i64 0,
 .int .i64 0,.int .i64 0,.int .i64 0,.int .i64 0,.int .i64 0]) .nil) (q (q (s [(4,i 1)]) (.block 0 (.loop (q (.cond (p (b .leq (x 4) (b .sub (n1 .len (ld
 (fa 0 (n1 .nilChk (x 0))))) (x 1))) (b .leq (x 4) (i 1749)) (.cst (.bool false))) .skip (.exit 0)) (q (.block 1 (q (q (.hv [(6,.node (.build [.int .i64 0,
 .int .i64 0,.int .i64 0,.int .i64 0,.int .i64 0,.int .i64 0,.int .i64 0] [(0,3),(3,1),(4,1),(5,1)]) (c (n2 (.build [.int .i64 0,.int .i64 0,.int
 .i64 0] [(0,1),(1,1)]) (i 231) (x 4)) (c3 (i 2) (x 4) (b .add (x 1) (x 4)))))] [] [] (some 5) (.alloc [.int .i64 0,.int .i64 0,.int .i64 0,.int .i64 0,
 .int .i64 0,.int .i64 0,.int .i64 0]) .nil) (.hv [] [] [] none (.st 7) (c2 (x 5) (x 6)))) (q (.cond (b .geq (x 4) (i 250)) (q (.hv [] [] [] none (.st 3) (c2
 (fa 0 (x 5)) (.node (.build [.int .i64 0,.int .i64 0,.int .i64 0] [(0,1),(1,1),(2,1)]) (c3 (i 231) (b .add (i 249) (b .quo (x 4) (i 250))) (b .rem (x
 4) (i 250)))))) (.hv [] [] [] none (.st 1) (c2 (fa 3 (x 5)) (i 3)))) .skip) (q (.hv [(10,p (b .eql (x 4) (i 1)) (.cst (.tuple #[])) (n1 (.ld 7 true) (x 3))),
 (9,p (b .eql (x 4) (i 1)) (.cst (.tuple #[])) (x 0)),(7,b .eql (x 4) (i 1))] [] [(b .eql (x 4) (i 1),false)] (some 8) (.call true) (c3 (.cst (.func (.func
 39) #[] #[])) (x 0) (n1 (.ld 7 true) (x 5)))) (q (.hv [] [] [(x 7,false)] (some 11) .callC (c3 (.cst (.func (.func 39) #[] #[])) (x 9) (x 10))) (.cond (p (x
 7) (.cst (.bool true)) (b .lss (x 8) (x 11))) (.hv [] [] [] none (.st 7) (c2 (x 3) (n1 (.ld 7 true) (x 5)))) .skip)))))) (s [(4,b .add (x 4) (i 1))])))))) (q
 (.hv [] [] [] none (.st 7) (c2 (x 2) (n1 (.ld 7 true) (x 3)))) .ret)))
def cf57:CF:=⟨2,12,[(.node (.ld 7 true) (.cons (.var 2) .nil))],bd57,.plain⟩
def tr57:List Nat:=[0,1,4,5,6,7,29,42,45,46,47,48]
def bd58:Stm:=
 q (q (h 3 .box (c1 (x 1))) (s [(4,.cst (.slice none 0 0))])) (q (s [(5,.cst (.slice none 0 0))]) (q (.cond (b .eql (ld (fa 1 (x 3))) (i 0)) (q (s [(10,i 0)])
 (.block 0 (.loop (q (.cond (b .lss (x 10) (i 3)) .skip (.exit 0)) (q (.block 1 (q (s [(6,x 10)]) (q (.hv [(11,x 5)] [] [] (some 12) (.bSl [.int .i64 0,.int
 .i64 0,.int .i64 0,.bool false] 1 [0]) (c1 (n2 (.build [.int .i64 0,.int .i64 0,.int .i64 0,.bool false] [(0,1),(1,3)]) (x 6) (.node (.build [.int
 .i64 0,.int .i64 0,.bool false] [(0,1),(1,1),(2,1)]) (c3 (ld (fa 0 (x 3))) (b .add (x 6) (i 1)) (ld (fa 2 (x 3)))))))) (q (h 13 (.app 4 [.int .i64 0,
 .int .i64 0,.int .i64 0,.bool false]) (c2 (x 11) (x 12))) (s [(5,x 13)]))))) (s [(10,b .add (x 10) (i 1))])))))) .skip) (q (.cond (b .lss (ld (fa 0 (x
 3))) (n1 .len (ld (fa 0 (n1 .nilChk (x 0)))))) (q (s [(7,ld (n2 (.iAddr 1) (ld (fa 0 (n1 .nilChk (x 0)))) (ld (fa 0 (x 3)))))]) (q (q (cl 14 63 (c2 (x 2) (b
 .and (x 7) (.cst (.int .u8 127))))) (s [(9,ix 1 (x 14)),(8,ix 0 (x 14))])) (.cond (p (b .eql (x 8) (ld (fa 1 (x 3)))) (n2 (.eqB false) (ld (fa 2 (x 3))) (b
 .geq (x 7) (.cst (.int .u8 128)))) (.cst (.bool false))) (q (.hv [(15,x 5)] [] [] (some 16) (.bSl [.int .i64 0,.int .i64 0,.int .i64 0,.bool false] 1 [0])
 (c1 (n2 (.build [.int .i64 0,.int .i64 0,.int .i64 0,.bool false] [(0,1),(1,3)]) (x 9) (n1 (.build [.int .i64 0,.int .i64 0,.bool false] [(0,1)]) (b
 .add (ld (fa 0 (x 3))) (i 1)))))) (q (h 17 (.app 4 [.int .i64 0,.int .i64 0,.int .i64 0,.bool false]) (c2 (x 15) (x 16))) (s [(5,x 17)]))) .skip))) .skip)
 (q (.cond (p (b .eql (ld (fa 1 (x 3))) (i 2)) (n1 (.un .not) (ld (fa 2 (x 3)))) (.cst (.bool false))) (q (.hv [(18,x 5)] [] [] (some 19) (.bSl [.int .i64 0,
 .int .i64 0,.int .i64 0,.bool false] 1 [0]) (c1 (n2 (.build [.int .i64 0,.int .i64 0,.int .i64 0,.bool false] [(0,1),(1,3)]) (i 30) (n2 (.build [.int
 .i64 0,.int .i64 0,.bool false] [(0,1),(2,1)]) (ld (fa 0 (x 3))) (.cst (.bool true)))))) (q (h 20 (.app 4 [.int .i64 0,.int .i64 0,.int .i64 0,.bool
 false]) (c2 (x 18) (x 19))) (s [(5,x 20)]))) .skip) (q (s [(4,x 5)]) .ret)))))
def cf58:CF:=⟨3,21,[(.var 4)],bd58,.plain⟩
def tr58:List Nat:=[0,1,2,4,6,7,8,9,10,11,15,18,28,29,51,65,72,73,82,87,88]
def bd59:Stm:=
 q (h 5 (.alloc [.int .i64 0,.int .i64 0,.int .i64 0,.int .i64 0,.int .i64 0,.int .i64 0,.int .i64 0]) .nil) (q (s [(6,b .add (b .add (b .add (b .mul (i
 1600) (x 0)) (b .mul (i 40) (x 1))) (x 2)) (i 1))]) (q (.hv [] [] [] none (.st 7) (c2 (x 5) (.node (.build [.int .i64 0,.int .i64 0,.int .i64 0,.int .i64
 0,.int .i64 0,.int .i64 0,.int .i64 0] [(0,3),(3,1),(5,1),(6,1)]) (c (n2 (.build [.int .i64 0,.int .i64 0,.int .i64 0] [(0,1),(1,1)]) (b .quo
 (x 6) (i 256)) (b .rem (x 6) (i 256))) (c3 (i 2) (x 3) (x 4)))))) .ret))
def cf59:CF:=⟨5,7,[(.node (.ld 7 true) (.cons (.var 5) .nil))],bd59,.plain⟩
def tr59:List Nat:=[0,1,2,3,4,10,11]
def bd60:Stm:=
 q (s [(1,i 0)]) (q (.block 0 (.cond (p (b .geq (x 0) (.cst (.int .u8 65))) (b .leq (x 0) (.cst (.int .u8 90))) (.cst (.bool false))) (q (s [(1,b .add (b .sub
 (n1 (.cvt .i64) (x 0)) (i 65)) (i 14))]) .ret) (.cond (p (b .geq (x 0) (.cst (.int .u8 48))) (b .leq (x 0) (.cst (.int .u8 57))) (.cst (.bool false))) (q (s
 [(1,b .add (b .sub (n1 (.cvt .i64) (x 0)) (i 48)) (i 4))]) .ret) (.cond (b .eql (x 0) (.cst (.int .u8 13))) (q (s [(1,i 0)]) .ret) (.cond (b .eql (x 0)
 (.cst (.int .u8 42))) (q (s [(1,i 1)]) .ret) (.cond (b .eql (x 0) (.cst (.int .u8 62))) (q (s [(1,i 2)]) .ret) (.cond (b .eql (x 0) (.cst (.int .u8 32))) (q
 (s [(1,i 3)]) .ret) .skip))))))) (q (s [(1,i (-1))]) .ret))
def cf60:CF:=⟨1,2,[(.var 1)],bd60,.plain⟩
def tr60:List Nat:=[0,2]
def bd61:Stm:=
 q (h 4 (.alloc [.int .i64 0,.int .i64 0,.int .i64 0,.int .i64 0,.int .i64 0,.int .i64 0,.int .i64 0]) .nil) (q (s [(0,b .shl (x 0) (b .mul (i 6) (b .sub
 (i 4) (x 1))))]) (q (.hv [] [] [] none (.st 7) (c2 (x 4) (.node (.build [.int .i64 0,.int .i64 0,.int .i64 0,.int .i64 0,.int .i64 0,.int .i64 0,.int
 .i64 0] [(0,3),(3,1),(5,1),(6,1)]) (c (.node (.build [.int .i64 0,.int .i64 0,.int .i64 0] [(0,1),(1,1),(2,1)]) (c3 (b .shr (x 0) (.cst (.int
 .u64 16))) (b .and (b .shr (x 0) (.cst (.int .u64 8))) (i 255)) (b .and (x 0) (i 255)))) (c3 (b .quo (b .add (b .mul (i 6) (x 1)) (i 7)) (i 8)) (x 2) (x
 3)))))) .ret))
def cf61:CF:=⟨4,5,[(.node (.ld 7 true) (.cons (.var 4) .nil))],bd61,.plain⟩
def tr61:List Nat:=[0,1,2,3,8]
def bd62:Stm:=
 q (s [(1,.cst (.bool false))]) (q (s [(1,b .neq (x 0) (x 0))]) .ret)
def cf62:CF:=⟨1,2,[(.var 1)],bd62,.plain⟩
def tr62:List Nat:=[0,2]
def bd63:Stm:=
 q (s [(3,i 0),(2,i 0)]) (q (s [(4,n1 (.cvt .i64) (x 1))]) (q (s [(5,p (b .geq (x 1) (.cst (.int .u8 65))) (b .leq (x 1) (.cst (.int .u8 90))) (.cst (.bool
 false)))]) (q (s [(6,p (b .geq (x 1) (.cst (.int .u8 97))) (b .leq (x 1) (.cst (.int .u8 122))) (.cst (.bool false)))]) (q (.block 0 (.cond (b .eql (x 1)
 (.cst (.int .u8 32))) (q (s [(3,i 3),(2,i 0)]) .ret) (.cond (p (b .geq (x 1) (.cst (.int .u8 48))) (b .leq (x 1) (.cst (.int .u8 57))) (.cst (.bool
 false))) (q (s [(3,b .add (b .sub (x 4) (i 48)) (i 4)),(2,i 0)]) .ret) (.cond (p (x 5) (n1 (.un .not) (x 0)) (.cst (.bool false))) (q (s [(3,b .add (b
 .sub (x 4) (i 65)) (i 14)),(2,i 0)]) .ret) (.cond (p (x 6) (x 0) (.cst (.bool false))) (q (s [(3,b .add (b .sub (x 4) (i 97)) (i 14)),(2,i 0)]) .ret)
 (.cond (x 5) (q (s [(3,b .add (b .sub (x 4) (i 65)) (i 1)),(2,i 3)]) .ret) (.cond (b .leq (x 4) (i 31)) (q (s [(3,x 4),(2,i 1)]) .ret) (.cond (b .leq (x
 4) (i 47)) (q (s [(3,b .sub (x 4) (i 33)),(2,i 2)]) .ret) (.cond (b .leq (x 4) (i 64)) (q (s [(3,b .add (b .sub (x 4) (i 58)) (i 15)),(2,i 2)]) .ret)
 (.cond (b .leq (x 4) (i 95)) (q (s [(3,b .add (b .sub (x 4) (i 91)) (i 22)),(2,i 2)]) .ret) .skip)))))))))) (q (s [(3,b .sub (x 4) (i 96)),(2,i 3)])
 .ret)))))
def cf63:CF:=⟨2,7,[(.var 2),(.var 3)],bd63,.plain⟩
def tr63:List Nat:=[0,1,4,5,6,7,8]
end
theorem is2:compFunc Try.prog tr2 2=some cf2:=by kernel_rfl
theorem is3:compFunc Try.prog tr3 3=some cf3:=by kernel_rfl
theorem is4:compFunc Try.prog tr4 4=some cf4:=by kernel_rfl
theorem is5:compFunc Try.prog tr5 5=some cf5:=by kernel_rfl
theorem is6:compFunc Try.prog tr6 6=some cf6:=by kernel_rfl
theorem is7:compFunc Try.prog tr7 7=some cf7:=by kernel_rfl
theorem is8:compFunc Try.prog tr8 8=some cf8:=by kernel_rfl
theorem is9:compFunc Try.prog tr9 9=some cf9:=by kernel_rfl
theorem is10:compFunc Try.prog tr10 10=some cf10:=by kernel_rfl
theorem is11:compFunc Try.prog tr11 11=some cf11:=by kernel_rfl
theorem is12:compFunc Try.prog tr12 12=some cf12:=by kernel_rfl
theorem is13:compFunc Try.prog tr13 13=some cf13:=by kernel_rfl
theorem is14:compFunc Try.prog tr14 14=some cf14:=by kernel_rfl
theorem is15:compFunc Try.prog tr15 15=some cf15:=by kernel_rfl
theorem is16:compFunc Try.prog tr16 16=some cf16:=by kernel_rfl
theorem is17:compFunc Try.prog tr17 17=some cf17:=by kernel_rfl
theorem is18:compFunc Try.prog tr18 18=some cf18:=by kernel_rfl
theorem is19:compFunc Try.prog tr19 19=some cf19:=by kernel_rfl
theorem is20:compFunc Try.prog tr20 20=some cf20:=by kernel_rfl
theorem is21:compFunc Try.prog tr21 21=some cf21:=by kernel_rfl
theorem is22:compFunc Try.prog tr22 22=some cf22:=by kernel_rfl
theorem is23:compFunc Try.prog tr23 23=some cf23:=by kernel_rfl
theorem is24:compFunc Try.prog tr24 24=some cf24:=by kernel_rfl
theorem is25:compFunc Try.prog tr25 25=some cf25:=by kernel_rfl
theorem is26:compFunc Try.prog tr26 26=some cf26:=by kernel_rfl
theorem is27:compFunc Try.prog tr27 27=some cf27:=by kernel_rfl
theorem is28:compFunc Try.prog tr28 28=some cf28:=by kernel_rfl
theorem is29:compFunc Try.prog tr29 29=some cf29:=by kernel_rfl
theorem is30:compFunc Try.prog tr30 30=some cf30:=by kernel_rfl
theorem is31:compFunc Try.prog tr31 31=some cf31:=by kernel_rfl
theorem is32:compFunc Try.prog tr32 32=some cf32:=by kernel_rfl
theorem is33:compFunc Try.prog tr33 33=some cf33:=by kernel_rfl
theorem is34:compFunc Try.prog tr34 34=some cf34:=by kernel_rfl
theorem is35:compFunc Try.prog tr35 35=some cf35:=by kernel_rfl
theorem is36:compFunc Try.prog tr36 36=some cf36:=by kernel_rfl
theorem is37:compFunc Try.prog tr37 37=some cf37:=by kernel_rfl
theorem is38:compFunc Try.prog tr38 38=some cf38:=by kernel_rfl
theorem is39:compFunc Try.prog tr39 39=some cf39:=by kernel_rfl
theorem is40:compFunc Try.prog tr40 40=some cf40:=by kernel_rfl
theorem is41:compFunc Try.prog tr41 41=some cf41:=by kernel_rfl
theorem is42:compFunc Try.prog tr42 42=some cf42:=by kernel_rfl
theorem is43:compFunc Try.prog tr43 43=some cf43:=by kernel_rfl
theorem is44:compFunc Try.prog tr44 44=some cf44:=by kernel_rfl
theorem is45:compFunc Try.prog tr45 45=some cf45:=by kernel_rfl
theorem is46:compFunc Try.prog tr46 46=some cf46:=by kernel_rfl
theorem is47:compFunc Try.prog tr47 47=some cf47:=by kernel_rfl
theorem is48:compFunc Try.prog tr48 48=some cf48:=by kernel_rfl
theorem is49:compFunc Try.prog tr49 49=some cf49:=by kernel_rfl
theorem is50:compFunc Try.prog tr50 50=some cf50:=by kernel_rfl
theorem is51:compFunc Try.prog tr51 51=some cf51:=by kernel_rfl
theorem is52:compFunc Try.prog tr52 52=some cf52:=by kernel_rfl
theorem is53:compFunc Try.prog tr53 53=some cf53:=by kernel_rfl
theorem is54:compFunc Try.prog tr54 54=some cf54:=by kernel_rfl
theorem is55:compFunc Try.prog tr55 55=some cf55:=by kernel_rfl
theorem is56:compFunc Try.prog tr56 56=some cf56:=by kernel_rfl
theorem is57:compFunc Try.prog tr57 57=some cf57:=by kernel_rfl
theorem is58:compFunc Try.prog tr58 58=some cf58:=by kernel_rfl
theorem is59:compFunc Try.prog tr59 59=some cf59:=by kernel_rfl
theorem is60:compFunc Try.prog tr60 60=some cf60:=by kernel_rfl
theorem is61:compFunc Try.prog tr61 61=some cf61:=by kernel_rfl
theorem is62:compFunc Try.prog tr62 62=some cf62:=by kernel_rfl
theorem is63:compFunc Try.prog tr63 63=some cf63:=by kernel_rfl
def cp:FuncId→Option CF
 | 2=>some cf2
 | 3=>some cf3
 | 4=>some cf4
 | 5=>some cf5
 | 6=>some cf6
 | 7=>some cf7
 | 8=>some cf8
 | 9=>some cf9
 | 10=>some cf10
 | 11=>some cf11
 | 12=>some cf12
 | 13=>some cf13
 | 14=>some cf14
 | 15=>some cf15
 | 16=>some cf16
 | 17=>some cf17
 | 18=>some cf18
 | 19=>some cf19
 | 20=>some cf20
 | 21=>some cf21
 | 22=>some cf22
 | 23=>some cf23
 | 24=>some cf24
 | 25=>some cf25
 | 26=>some cf26
 | 27=>some cf27
 | 28=>some cf28
 | 29=>some cf29
 | 30=>some cf30
 | 31=>some cf31
 | 32=>some cf32
 | 33=>some cf33
 | 34=>some cf34
 | 35=>some cf35
 | 36=>some cf36
 | 37=>some cf37
 | 38=>some cf38
 | 39=>some cf39
 | 40=>some cf40
 | 41=>some cf41
 | 42=>some cf42
 | 43=>some cf43
 | 44=>some cf44
 | 45=>some cf45
 | 46=>some cf46
 | 47=>some cf47
 | 48=>some cf48
 | 49=>some cf49
 | 50=>some cf50
 | 51=>some cf51
 | 52=>some cf52
 | 53=>some cf53
 | 54=>some cf54
 | 55=>some cf55
 | 56=>some cf56
 | 57=>some cf57
 | 58=>some cf58
 | 59=>some cf59
 | 60=>some cf60
 | 61=>some cf61
 | 62=>some cf62
 | 63=>some cf63
 | _=>none
theorem compiled:Compiled Try.prog cp:=by
 intro f cf h
 unfold cp at h
 split at h
 ·cases h;exact⟨_,is2⟩
 ·cases h;exact⟨_,is3⟩
 ·cases h;exact⟨_,is4⟩
 ·cases h;exact⟨_,is5⟩
 ·cases h;exact⟨_,is6⟩
 ·cases h;exact⟨_,is7⟩
 ·cases h;exact⟨_,is8⟩
 ·cases h;exact⟨_,is9⟩
 ·cases h;exact⟨_,is10⟩
 ·cases h;exact⟨_,is11⟩
 ·cases h;exact⟨_,is12⟩
 ·cases h;exact⟨_,is13⟩
 ·cases h;exact⟨_,is14⟩
 ·cases h;exact⟨_,is15⟩
 ·cases h;exact⟨_,is16⟩
 ·cases h;exact⟨_,is17⟩
 ·cases h;exact⟨_,is18⟩
 ·cases h;exact⟨_,is19⟩
 ·cases h;exact⟨_,is20⟩
 ·cases h;exact⟨_,is21⟩
 ·cases h;exact⟨_,is22⟩
 ·cases h;exact⟨_,is23⟩
 ·cases h;exact⟨_,is24⟩
 ·cases h;exact⟨_,is25⟩
 ·cases h;exact⟨_,is26⟩
 ·cases h;exact⟨_,is27⟩
 ·cases h;exact⟨_,is28⟩
 ·cases h;exact⟨_,is29⟩
 ·cases h;exact⟨_,is30⟩
 ·cases h;exact⟨_,is31⟩
 ·cases h;exact⟨_,is32⟩
 ·cases h;exact⟨_,is33⟩
 ·cases h;exact⟨_,is34⟩
 ·cases h;exact⟨_,is35⟩
 ·cases h;exact⟨_,is36⟩
 ·cases h;exact⟨_,is37⟩
 ·cases h;exact⟨_,is38⟩
 ·cases h;exact⟨_,is39⟩
 ·cases h;exact⟨_,is40⟩
 ·cases h;exact⟨_,is41⟩
 ·cases h;exact⟨_,is42⟩
 ·cases h;exact⟨_,is43⟩
 ·cases h;exact⟨_,is44⟩
 ·cases h;exact⟨_,is45⟩
 ·cases h;exact⟨_,is46⟩
 ·cases h;exact⟨_,is47⟩
 ·cases h;exact⟨_,is48⟩
 ·cases h;exact⟨_,is49⟩
 ·cases h;exact⟨_,is50⟩
 ·cases h;exact⟨_,is51⟩
 ·cases h;exact⟨_,is52⟩
 ·cases h;exact⟨_,is53⟩
 ·cases h;exact⟨_,is54⟩
 ·cases h;exact⟨_,is55⟩
 ·cases h;exact⟨_,is56⟩
 ·cases h;exact⟨_,is57⟩
 ·cases h;exact⟨_,is58⟩
 ·cases h;exact⟨_,is59⟩
 ·cases h;exact⟨_,is60⟩
 ·cases h;exact⟨_,is61⟩
 ·cases h;exact⟨_,is62⟩
 ·cases h;exact⟨_,is63⟩
 ·simp at h
theorem mixed:Try.prog.follows .mixedOrders=true:=by kernel_rfl
theorem okAll(base n:Nat):RunOK Try.prog base Try.prog.globals.size (run cp n):=sound mixed compiled base n
theorem st2{lo:Nat}{H:Heap}{R:Value→Heap→Prop}(h:wpS cp lo bd2 (bodyQ cf2 R) [] H):Ev cp lo 2 [] H R:=ev_of_wp (cf:=cf2) rfl rfl rfl h
theorem st3{lo:Nat}{H:Heap}{R:Value→Heap→Prop}{a0:Value}(h:wpS cp lo bd3 (bodyQ cf3 R) [a0,undef,undef,undef,undef,undef,undef,undef,undef,undef,undef,undef,undef,undef,undef] H):Ev cp lo 3 [a0] H R:=ev_of_wp (cf:=cf3) rfl rfl rfl h
theorem st4{lo:Nat}{H:Heap}{R:Value→Heap→Prop}{a0 a1:Value}(h:wpS cp lo bd4 (bodyQ cf4 R) [a0,a1,undef,undef,undef,undef,undef,undef,undef,undef,undef,undef,undef] H):Ev cp lo 4 [a0,a1] H R:=ev_of_wp (cf:=cf4) rfl rfl rfl h
theorem st5{lo:Nat}{H:Heap}{R:Value→Heap→Prop}{a0 a1:Value}(h:wpS cp lo bd5 (bodyQ cf5 R) [a0,a1,undef,undef,undef,undef,undef,undef,undef,undef,undef,undef,undef,undef,undef,undef,undef,undef,undef,undef,undef,undef,undef,undef] H):Ev cp lo 5 [a0,a1] H R:=ev_of_wp (cf:=cf5) rfl rfl rfl h
theorem st6{lo:Nat}{H:Heap}{R:Value→Heap→Prop}{a0:Value}(h:wpS cp lo bd6 (bodyQ cf6 R) [a0,undef,undef,undef,undef,undef,undef,undef,undef,undef,undef,undef,undef,undef,undef,undef] H):Ev cp lo 6 [a0] H R:=ev_of_wp (cf:=cf6) rfl rfl rfl h
theorem st7{lo:Nat}{H:Heap}{R:Value→Heap→Prop}{a0 a1:Value}(h:wpS cp lo bd7 (bodyQ cf7 R) [a0,a1,undef,undef,undef,undef,undef,undef,undef,undef,undef,undef,undef,undef,undef,undef,undef,undef] H):Ev cp lo 7 [a0,a1] H R:=ev_of_wp (cf:=cf7) rfl rfl rfl h
theorem st8{lo:Nat}{H:Heap}{R:Value→Heap→Prop}{a0:Value}(h:wpS cp lo bd8 (bodyQ cf8 R) [a0,undef,undef,undef,undef,undef,undef,undef,undef,undef,undef,undef,undef,undef,undef,undef,undef,undef,undef,undef] H):Ev cp lo 8 [a0] H R:=ev_of_wp (cf:=cf8) rfl rfl rfl h
theorem st9{lo:Nat}{H:Heap}{R:Value→Heap→Prop}(h:wpS cp lo bd9 (bodyQ cf9 R) [undef,undef,undef,undef,undef,undef,undef,undef,undef,undef,undef,undef,undef,undef,undef,undef,undef,undef,undef,undef,undef,undef,undef,undef,undef,undef,undef,undef,undef,undef,undef,undef,undef,undef,undef] H):Ev cp lo 9 [] H R:=ev_of_wp (cf:=cf9) rfl rfl rfl h
theorem st10{lo:Nat}{H:Heap}{R:Value→Heap→Prop}{a0:Value}(h:wpS cp lo bd10 (bodyQ cf10 R) [a0,undef,undef,undef,undef] H):Ev cp lo 10 [a0] H R:=ev_of_wp (cf:=cf10) rfl rfl rfl h
theorem st11{lo:Nat}{H:Heap}{R:Value→Heap→Prop}{a0:Value}(h:wpS cp lo bd11 (bodyQ cf11 R) [a0,undef,undef,undef,undef,undef,undef,undef,undef,undef,undef,undef,undef,undef,undef,undef,undef,undef,undef,undef,undef,undef,undef,undef,undef,undef,undef,undef,undef,undef,undef,undef,undef,undef,undef,undef,undef,undef,undef,undef,undef,undef,undef,undef,undef,undef,undef,undef,undef,undef] H):Ev cp lo 11 [a0] H R:=ev_of_wp (cf:=cf11) rfl rfl rfl h
theorem st12{lo:Nat}{H:Heap}{R:Value→Heap→Prop}{a0:Value}(h:wpS cp lo bd12 (bodyQ cf12 R) [a0,undef,undef,undef] H):Ev cp lo 12 [a0] H R:=ev_of_wp (cf:=cf12) rfl rfl rfl h
theorem st13{lo:Nat}{H:Heap}{R:Value→Heap→Prop}{a0 a1:Value}(h:wpS cp lo bd13 (bodyQ cf13 R) [a0,a1,undef,undef] H):Ev cp lo 13 [a0,a1] H R:=ev_of_wp (cf:=cf13) rfl rfl rfl h
theorem st14{lo:Nat}{H:Heap}{R:Value→Heap→Prop}{a0 a1:Value}(h:wpS cp lo bd14 (bodyQ cf14 R) [a0,a1,undef,undef,undef,undef,undef,undef,undef,undef,undef] H):Ev cp lo 14 [a0,a1] H R:=ev_of_wp (cf:=cf14) rfl rfl rfl h
theorem st15{lo:Nat}{H:Heap}{R:Value→Heap→Prop}{a0 a1:Value}(h:wpS cp lo bd15 (bodyQ cf15 R) [a0,a1,undef,undef,undef,undef,undef,undef,undef,undef,undef,undef] H):Ev cp lo 15 [a0,a1] H R:=ev_of_wp (cf:=cf15) rfl rfl rfl h
theorem st16{lo:Nat}{H:Heap}{R:Value→Heap→Prop}{a0:Value}(h:wpS cp lo bd16 (bodyQ cf16 R) [a0,undef,undef,undef,undef,undef,undef,undef,undef,undef,undef,undef] H):Ev cp lo 16 [a0] H R:=ev_of_wp (cf:=cf16) rfl rfl rfl h
theorem st17{lo:Nat}{H:Heap}{R:Value→Heap→Prop}{a0:Value}(h:wpS cp lo bd17 (bodyQ cf17 R) [a0,undef,undef,undef,undef,undef,undef,undef,undef] H):Ev cp lo 17 [a0] H R:=ev_of_wp (cf:=cf17) rfl rfl rfl h
theorem st18{lo:Nat}{H:Heap}{R:Value→Heap→Prop}{a0:Value}(h:wpS cp lo bd18 (bodyQ cf18 R) [a0,undef,undef,undef,undef,undef,undef,undef,undef,undef,undef,undef,undef,undef,undef,undef,undef,undef,undef,undef,undef,undef,undef,undef,undef,undef,undef,undef,undef,undef] H):Ev cp lo 18 [a0] H R:=ev_of_wp (cf:=cf18) rfl rfl rfl h
theorem st19{lo:Nat}{H:Heap}{R:Value→Heap→Prop}{a0:Value}(h:wpS cp lo bd19 (bodyQ cf19 R) [a0,undef,undef,undef,undef,undef,undef,undef,undef,undef,undef,undef,undef,undef,undef,undef,undef,undef] H):Ev cp lo 19 [a0] H R:=ev_of_wp (cf:=cf19) rfl rfl rfl h
theorem st20{lo:Nat}{H:Heap}{R:Value→Heap→Prop}{a0 a1 a2:Value}(h:wpS cp lo bd20 (bodyQ cf20 R) [a0,a1,a2,undef,undef,undef,undef,undef,undef,undef,undef,undef,undef,undef,undef,undef,undef,undef,undef,undef,undef] H):Ev cp lo 20 [a0,a1,a2] H R:=ev_of_wp (cf:=cf20) rfl rfl rfl h
theorem st21{lo:Nat}{H:Heap}{R:Value→Heap→Prop}{a0 a1:Value}(h:wpS cp lo bd21 (bodyQ cf21 R) [a0,a1,undef] H):Ev cp lo 21 [a0,a1] H R:=ev_of_wp (cf:=cf21) rfl rfl rfl h
theorem st22{lo:Nat}{H:Heap}{R:Value→Heap→Prop}{a0:Value}(h:wpS cp lo bd22 (bodyQ cf22 R) [a0,undef,undef,undef,undef] H):Ev cp lo 22 [a0] H R:=ev_of_wp (cf:=cf22) rfl rfl rfl h
theorem st23{lo:Nat}{H:Heap}{R:Value→Heap→Prop}{a0:Value}(h:wpS cp lo bd23 (bodyQ cf23 R) [a0,undef,undef] H):Ev cp lo 23 [a0] H R:=ev_of_wp (cf:=cf23) rfl rfl rfl h
theorem st24{lo:Nat}{H:Heap}{R:Value→Heap→Prop}{a0 a1:Value}(h:wpS cp lo bd24 (bodyQ cf24 R) [a0,a1,undef,undef,undef,undef,undef,undef,undef,undef,undef,undef,undef,undef,undef,undef,undef,undef,undef] H):Ev cp lo 24 [a0,a1] H R:=ev_of_wp (cf:=cf24) rfl rfl rfl h
theorem st25{lo:Nat}{H:Heap}{R:Value→Heap→Prop}{a0 a1:Value}(h:wpS cp lo bd25 (bodyQ cf25 R) [a0,a1,undef,undef,undef,undef,undef,undef,undef,undef,undef,undef,undef,undef,undef,undef,undef,undef,undef] H):Ev cp lo 25 [a0,a1] H R:=ev_of_wp (cf:=cf25) rfl rfl rfl h
theorem st26{lo:Nat}{H:Heap}{R:Value→Heap→Prop}{a0 a1 a2:Value}(h:wpS cp lo bd26 (bodyQ cf26 R) [a0,a1,a2,undef,undef,undef,undef,undef,undef,undef,undef,undef,undef,undef] H):Ev cp lo 26 [a0,a1,a2] H R:=ev_of_wp (cf:=cf26) rfl rfl rfl h
theorem st27{lo:Nat}{H:Heap}{R:Value→Heap→Prop}{a0:Value}(h:wpS cp lo bd27 (bodyQ cf27 R) [a0,undef] H):Ev cp lo 27 [a0] H R:=ev_of_wp (cf:=cf27) rfl rfl rfl h
theorem st28{lo:Nat}{H:Heap}{R:Value→Heap→Prop}{a0:Value}(h:wpS cp lo bd28 (bodyQ cf28 R) [a0,undef,undef,undef,undef,undef,undef,undef,undef,undef,undef,undef,undef,undef,undef,undef,undef] H):Ev cp lo 28 [a0] H R:=ev_of_wp (cf:=cf28) rfl rfl rfl h
theorem st29{lo:Nat}{H:Heap}{R:Value→Heap→Prop}{a0 a1 a2:Value}(h:wpS cp lo bd29 (bodyQ cf29 R) [a0,a1,a2,undef,undef,undef,undef,undef,undef,undef,undef,undef,undef] H):Ev cp lo 29 [a0,a1,a2] H R:=ev_of_wp (cf:=cf29) rfl rfl rfl h
theorem st30{lo:Nat}{H:Heap}{R:Value→Heap→Prop}{a0:Value}(h:wpS cp lo bd30 (bodyQ cf30 R) [a0,undef,undef,undef] H):Ev cp lo 30 [a0] H R:=ev_of_wp (cf:=cf30) rfl rfl rfl h
theorem st31{lo:Nat}{H:Heap}{R:Value→Heap→Prop}{a0 a1:Value}(h:wpS cp lo bd31 (bodyQ cf31 R) [a0,a1,undef,undef,undef,undef,undef,undef,undef,undef,undef,undef] H):Ev cp lo 31 [a0,a1] H R:=ev_of_wp (cf:=cf31) rfl rfl rfl h
theorem st32{lo:Nat}{H:Heap}{R:Value→Heap→Prop}{a0 a1:Value}(h:wpS cp lo bd32 (bodyQ cf32 R) [a0,a1,undef,undef,undef] H):Ev cp lo 32 [a0,a1] H R:=ev_of_wp (cf:=cf32) rfl rfl rfl h
theorem st33{lo:Nat}{H:Heap}{R:Value→Heap→Prop}{a0:Value}(h:wpS cp lo bd33 (bodyQ cf33 R) [a0,undef,undef,undef,undef,undef,undef] H):Ev cp lo 33 [a0] H R:=ev_of_wp (cf:=cf33) rfl rfl rfl h
theorem st34{lo:Nat}{H:Heap}{R:Value→Heap→Prop}{a0 a1:Value}(h:wpS cp lo bd34 (bodyQ cf34 R) [a0,a1,undef,undef,undef,undef,undef,undef,undef,undef,undef,undef,undef,undef,undef,undef,undef,undef,undef,undef,undef,undef] H):Ev cp lo 34 [a0,a1] H R:=ev_of_wp (cf:=cf34) rfl rfl rfl h
theorem st35{lo:Nat}{H:Heap}{R:Value→Heap→Prop}{a0:Value}(h:wpS cp lo bd35 (bodyQ cf35 R) [a0,undef,undef,undef,undef,undef,undef,undef,undef,undef,undef,undef,undef,undef,undef,undef,undef] H):Ev cp lo 35 [a0] H R:=ev_of_wp (cf:=cf35) rfl rfl rfl h
theorem st36{lo:Nat}{H:Heap}{R:Value→Heap→Prop}{a0:Value}(h:wpS cp lo bd36 (bodyQ cf36 R) [a0,undef,undef,undef,undef,undef,undef,undef,undef,undef,undef,undef,undef,undef,undef,undef,undef] H):Ev cp lo 36 [a0] H R:=ev_of_wp (cf:=cf36) rfl rfl rfl h
theorem st37{lo:Nat}{H:Heap}{R:Value→Heap→Prop}{a0:Value}(h:wpS cp lo bd37 (bodyQ cf37 R) [a0,undef,undef,undef,undef,undef,undef,undef,undef,undef,undef,undef] H):Ev cp lo 37 [a0] H R:=ev_of_wp (cf:=cf37) rfl rfl rfl h
theorem st38{lo:Nat}{H:Heap}{R:Value→Heap→Prop}{a0 a1 a2:Value}(h:wpS cp lo bd38 (bodyQ cf38 R) [a0,a1,a2,undef,undef,undef,undef,undef,undef] H):Ev cp lo 38 [a0,a1,a2] H R:=ev_of_wp (cf:=cf38) rfl rfl rfl h
theorem st39{lo:Nat}{H:Heap}{R:Value→Heap→Prop}{a0 a1:Value}(h:wpS cp lo bd39 (bodyQ cf39 R) [a0,a1,undef,undef,undef,undef] H):Ev cp lo 39 [a0,a1] H R:=ev_of_wp (cf:=cf39) rfl rfl rfl h
theorem st40{lo:Nat}{H:Heap}{R:Value→Heap→Prop}{a0 a1:Value}(h:wpS cp lo bd40 (bodyQ cf40 R) [a0,a1,undef,undef,undef,undef,undef,undef,undef,undef,undef] H):Ev cp lo 40 [a0,a1] H R:=ev_of_wp (cf:=cf40) rfl rfl rfl h
theorem st41{lo:Nat}{H:Heap}{R:Value→Heap→Prop}{a0 a1:Value}(h:wpS cp lo bd41 (bodyQ cf41 R) [a0,a1,undef,undef,undef,undef,undef,undef,undef,undef,undef,undef,undef,undef,undef,undef,undef,undef,undef,undef,undef,undef,undef,undef,undef,undef,undef,undef,undef] H):Ev cp lo 41 [a0,a1] H R:=ev_of_wp (cf:=cf41) rfl rfl rfl h
theorem st42{lo:Nat}{H:Heap}{R:Value→Heap→Prop}{a0 a1:Value}(h:wpS cp lo bd42 (bodyQ cf42 R) [a0,a1,undef,undef,undef,undef,undef,undef,undef,undef,undef,undef,undef,undef,undef,undef,undef,undef,undef,undef] H):Ev cp lo 42 [a0,a1] H R:=ev_of_wp (cf:=cf42) rfl rfl rfl h
theorem st43{lo:Nat}{H:Heap}{R:Value→Heap→Prop}{a0:Value}(h:wpS cp lo bd43 (bodyQ cf43 R) [a0,undef,undef,undef,undef] H):Ev cp lo 43 [a0] H R:=ev_of_wp (cf:=cf43) rfl rfl rfl h
theorem st45{lo:Nat}{H:Heap}{R:Value→Heap→Prop}{a0:Value}(h:wpS cp lo bd45 (bodyQ cf45 R) [a0,undef,undef,undef,undef,undef] H):Ev cp lo 45 [a0] H R:=ev_of_wp (cf:=cf45) rfl rfl rfl h
theorem st47{lo:Nat}{H:Heap}{R:Value→Heap→Prop}{a0 a1:Value}(h:wpS cp lo bd47 (bodyQ cf47 R) [a0,a1,undef,undef,undef,undef,undef,undef,undef,undef,undef,undef,undef,undef,undef,undef,undef,undef,undef,undef,undef,undef,undef,undef,undef] H):Ev cp lo 47 [a0,a1] H R:=ev_of_wp (cf:=cf47) rfl rfl rfl h
theorem st48{lo:Nat}{H:Heap}{R:Value→Heap→Prop}{a0 a1 a2 a3 a4:Value}(h:wpS cp lo bd48 (bodyQ cf48 R) [a0,a1,a2,a3,a4,undef,undef,undef,undef,undef,undef,undef,undef,undef,undef,undef,undef,undef,undef,undef,undef,undef,undef,undef,undef,undef,undef,undef,undef,undef] H):Ev cp lo 48 [a0,a1,a2,a3,a4] H R:=ev_of_wp (cf:=cf48) rfl rfl rfl h
theorem st49{lo:Nat}{H:Heap}{R:Value→Heap→Prop}{a0 a1:Value}(h:wpS cp lo bd49 (bodyQ cf49 R) [a0,a1,undef,undef,undef,undef,undef,undef,undef,undef,undef,undef,undef,undef] H):Ev cp lo 49 [a0,a1] H R:=ev_of_wp (cf:=cf49) rfl rfl rfl h
theorem st50{lo:Nat}{H:Heap}{R:Value→Heap→Prop}{a0 a1:Value}(h:wpS cp lo bd50 (bodyQ cf50 R) [a0,a1,undef,undef,undef,undef,undef,undef,undef,undef,undef,undef,undef,undef,undef,undef] H):Ev cp lo 50 [a0,a1] H R:=ev_of_wp (cf:=cf50) rfl rfl rfl h
theorem st51{lo:Nat}{H:Heap}{R:Value→Heap→Prop}{a0:Value}(h:wpS cp lo bd51 (bodyQ cf51 R) [a0,undef,undef] H):Ev cp lo 51 [a0] H R:=ev_of_wp (cf:=cf51) rfl rfl rfl h
theorem st52{lo:Nat}{H:Heap}{R:Value→Heap→Prop}{a0 a1:Value}(h:wpS cp lo bd52 (bodyQ cf52 R) [a0,a1,undef,undef,undef,undef,undef] H):Ev cp lo 52 [a0,a1] H R:=ev_of_wp (cf:=cf52) rfl rfl rfl h
theorem st57{lo:Nat}{H:Heap}{R:Value→Heap→Prop}{a0 a1:Value}(h:wpS cp lo bd57 (bodyQ cf57 R) [a0,a1,undef,undef,undef,undef,undef,undef,undef,undef,undef,undef] H):Ev cp lo 57 [a0,a1] H R:=ev_of_wp (cf:=cf57) rfl rfl rfl h
theorem st58{lo:Nat}{H:Heap}{R:Value→Heap→Prop}{a0 a1 a2:Value}(h:wpS cp lo bd58 (bodyQ cf58 R) [a0,a1,a2,undef,undef,undef,undef,undef,undef,undef,undef,undef,undef,undef,undef,undef,undef,undef,undef,undef,undef] H):Ev cp lo 58 [a0,a1,a2] H R:=ev_of_wp (cf:=cf58) rfl rfl rfl h
theorem st59{lo:Nat}{H:Heap}{R:Value→Heap→Prop}{a0 a1 a2 a3 a4:Value}(h:wpS cp lo bd59 (bodyQ cf59 R) [a0,a1,a2,a3,a4,undef,undef] H):Ev cp lo 59 [a0,a1,a2,a3,a4] H R:=ev_of_wp (cf:=cf59) rfl rfl rfl h
theorem st61{lo:Nat}{H:Heap}{R:Value→Heap→Prop}{a0 a1 a2 a3:Value}(h:wpS cp lo bd61 (bodyQ cf61 R) [a0,a1,a2,a3,undef] H):Ev cp lo 61 [a0,a1,a2,a3] H R:=ev_of_wp (cf:=cf61) rfl rfl rfl h
theorem st62{lo:Nat}{H:Heap}{R:Value→Heap→Prop}{a0:Value}(h:wpS cp lo bd62 (bodyQ cf62 R) [a0,undef] H):Ev cp lo 62 [a0] H R:=ev_of_wp (cf:=cf62) rfl rfl rfl h
end Go.Proofs.Ythnflhimcmdnbaa
