/- The functions of this seat as the abstract machine has them (printed by a program), and that its compiler makes them of the given program. -/
import Derived.Test.YthejjplggcfjcaaD8
import Derived.Test.YthejjplggcfjcaaProg
import Derived.KernelRfl
set_option linter.unusedVariables false
set_option linter.unusedSimpArgs false
set_option linter.unusedSectionVars false
namespace Go.Proofs.Ythejjplggcfjcaa
open Go.Abs
def lit0 : ByteArray := ⟨#[0, 1, 2, 2, 3, 3, 3, 3, 4, 4, 4, 4, 4, 4, 4, 4, 5, 5, 5, 5, 5, 5, 5, 5, 5, 5, 5, 5, 5, 5, 5, 5, 6, 6, 6, 6, 6, 6, 6, 6, 6, 6, 6, 6, 6, 6, 6, 6, 6, 6, 6, 6, 6, 6, 6, 6, 6, 6, 6, 6, 6, 6, 6, 6, 7, 7, 7, 7, 7, 7, 7, 7, 7, 7, 7, 7, 7, 7, 7, 7, 7, 7, 7, 7, 7, 7, 7, 7, 7, 7, 7, 7, 7, 7, 7, 7, 7, 7, 7, 7, 7, 7, 7, 7, 7, 7, 7, 7, 7, 7, 7, 7, 7, 7, 7, 7, 7, 7, 7, 7, 7, 7, 7, 7, 7, 7, 7, 7, 8, 8, 8, 8, 8, 8, 8, 8, 8, 8, 8, 8, 8, 8, 8, 8, 8, 8, 8, 8, 8, 8, 8, 8, 8, 8, 8, 8, 8, 8, 8, 8, 8, 8, 8, 8, 8, 8, 8, 8, 8, 8, 8, 8, 8, 8, 8, 8, 8, 8, 8, 8, 8, 8, 8, 8, 8, 8, 8, 8, 8, 8, 8, 8, 8, 8, 8, 8, 8, 8, 8, 8, 8, 8, 8, 8, 8, 8, 8, 8, 8, 8, 8, 8, 8, 8, 8, 8, 8, 8, 8, 8, 8, 8, 8, 8, 8, 8, 8, 8, 8, 8, 8, 8, 8, 8, 8, 8, 8, 8, 8, 8, 8, 8, 8, 8, 8, 8, 8, 8, 8, 8, 8, 8, 8, 8, 8, 8]⟩
namespace K
def x (n : Nat) : E := .var n
def i (n : Int) : E := .cst (.int .i64 n)
def c (a b : E) : E := .cons a b
def c1 (a : E) : E := .cons a .nil
def c2 (a b : E) : E := .cons a (.cons b .nil)
def c3 (a b c : E) : E := .cons a (.cons b (.cons c .nil))
def n1 (o : LOp) (a : E) : E := .node o (.cons a .nil)
def n2 (o : LOp) (a b : E) : E := .node o (.cons a (.cons b .nil))
def b (o : BinOp) (a b : E) : E := .node (.bin o) (.cons a (.cons b .nil))
def ld (a : E) : E := .node (.ld 1 false) (.cons a .nil)
def fa (n : Nat) (a : E) : E := .node (.fAddr n) (.cons a .nil)
def ix (n : Nat) (a : E) : E := .node (.ext n) (.cons a .nil)
def p (a b c : E) : E := .pick a b c
def h (d : Nat) (o : HOp) (a : E) : Stm := .hv [] [] [] (some d) o a
def cl (d f : Nat) (a : E) : Stm := .hv [] [] [] (some d) (.call false) (.cons (.cst (.func (.func f) #[] #[])) a)
def s (l : List (Nat × E)) : Stm := .sets l []
def q (a b : Stm) : Stm := .seq a b
end K
set_option linter.defProp false in
def kB := And.intro @K.x.eq_1 (And.intro @K.i.eq_1 (And.intro @K.c.eq_1 (And.intro @K.c1.eq_1 (And.intro @K.c2.eq_1 (And.intro @K.c3.eq_1 (And.intro @K.n1.eq_1 (And.intro @K.n2.eq_1 (And.intro @K.b.eq_1 (And.intro @K.ld.eq_1 (And.intro @K.fa.eq_1 (And.intro @K.ix.eq_1 (And.intro @K.p.eq_1 (And.intro @K.h.eq_1 (And.intro @K.cl.eq_1 (And.intro @K.s.eq_1 @K.q.eq_1)))))))))))))))
section
open K
def bd2 : Stm :=
 .hv [] [] [] none (.call false) (c1 (.cst (.func (.func 1) #[] #[])))
def cf2 : CF := ⟨0, 0, [], bd2⟩
def tr2 : List Nat := []
def bd3 : Stm :=
 q (q (h 3 .box (c1 (x 0))) (s [(4, .cst (.bool false))])) (q (q (cl 14 10 (c3 (n1 (.ld 3 true) (x 3)) (x 1) (x 2))) (q (.hv [(16, ix 1 (x 14)), (15, ix 0 (x
 14))] [] [] (some 5) (.alloc [.int .i64 0, .int .i64 0, .int .i64 0, .int .i64 0, .int .i64 0]) .nil) (q (.hv [] [] [] none (.st 5) (c2 (x 5) (x 15))) (s [(6,
 x 16)])))) (q (q (cl 17 11 (c3 (n1 (.ld 3 true) (x 3)) (x 1) (x 2))) (q (.hv [(19, ix 1 (x 17)), (18, ix 0 (x 17))] [] [] (some 7) (.alloc [.int .i64 0, .int
 .i64 0, .int .i64 0, .int .i64 0, .int .i64 0]) .nil) (q (.hv [] [] [] none (.st 5) (c2 (x 7) (x 18))) (s [(8, x 19)])))) (q (.cond (p (n2 (.eqA true [1, 1,
 1, 1, 1]) (n1 (.ld 5 true) (x 5)) (n1 (.ld 5 true) (x 7))) (.cst (.bool true)) (b .neq (x 6) (x 8))) (q (s [(4, .cst (.bool false))]) .ret) .skip) (q (.cond
 (b .gtr (x 1) (i 60)) (q (q (cl 20 12 .nil) (s [(4, x 20)])) .ret) .skip) (q (q (.hv [(21, .node (.build [.int .i64 0, .int .i64 0, .int .i64 0, .int .i64 0,
 .int .i64 0] [(0, 3), (3, 1), (4, 1)]) (c3 (n1 (.ld 3 true) (x 3)) (x 1) (x 2)))] [] [] (some 9) (.alloc [.int .i64 0, .int .i64 0, .int .i64 0, .int .i64 0,
 .int .i64 0]) .nil) (.hv [] [] [] none (.st 5) (c2 (x 9) (x 21)))) (q (q (cl 22 13 (c1 (n1 (.ld 5 true) (x 9)))) (s [(11, ix 1 (x 22)), (10, ix 0 (x 22))]))
 (q (q (cl 23 14 (c1 (n1 (.ld 5 true) (x 9)))) (s [(13, ix 1 (x 23)), (12, ix 0 (x 23))])) (q (q (cl 24 15 (c2 (x 10) (x 12))) (q (.hv [(25, p (x 24) (b .eql
 (x 11) (x 13)) (.cst (.bool false)))] [] [(p (x 24) (b .eql (x 11) (x 13)) (.cst (.bool false)), true)] (some 26) (.call false) (c1 (.cst (.func (.func 12)
 #[] #[])))) (s [(4, p (x 25) (x 26) (.cst (.bool false)))]))) .ret))))))))
def cf3 : CF := ⟨3, 27, [(.var 4)], bd3⟩
def tr3 : List Nat := [0, 1, 2, 3, 6, 7, 8, 9, 10, 11, 12, 13, 14, 15, 20, 21, 22, 27, 28, 29, 40, 44, 47, 52, 57, 63, 64]
def bd4 : Stm :=
 q (q (h 1 .box (c1 (x 0))) (s [(2, .cst (.bool false))])) (q (q (cl 11 16 (c1 (n1 (.ld 7 true) (x 1)))) (.cond (n1 (.un .not) (x 11)) (q (q (cl 12 12 .nil) (s
 [(2, x 12)])) .ret) .skip)) (q (q (cl 13 17 (c2 (n1 (.ld 5 true) (fa 0 (x 1))) (ld (fa 5 (x 1))))) (s [(4, ix 1 (x 13)), (3, ix 0 (x 13))])) (q (q (cl 14 18
 (c2 (n1 (.ld 5 true) (fa 0 (x 1))) (ld (fa 5 (x 1))))) (s [(6, ix 1 (x 14)), (5, ix 0 (x 14))])) (q (q (cl 15 19 (c2 (n1 (.ld 5 true) (fa 0 (x 1))) (ld (fa 5
 (x 1))))) (s [(8, ix 1 (x 15)), (7, ix 0 (x 15))])) (q (q (cl 16 20 (c2 (n1 (.ld 5 true) (fa 0 (x 1))) (ld (fa 5 (x 1))))) (s [(10, ix 1 (x 16)), (9, ix 0 (x
 16))])) (q (q (cl 17 15 (c2 (x 3) (x 5))) (q (.hv [(18, p (x 17) (b .eql (x 4) (x 6)) (.cst (.bool false)))] [] [(p (x 17) (b .eql (x 4) (x 6)) (.cst (.bool
 false)), true)] (some 19) (.call false) (c3 (.cst (.func (.func 15) #[] #[])) (x 7) (x 9))) (q (.hv [(20, p (p (x 18) (x 19) (.cst (.bool false))) (b .eql (x
 8) (x 10)) (.cst (.bool false)))] [] [(p (p (x 18) (x 19) (.cst (.bool false))) (b .eql (x 8) (x 10)) (.cst (.bool false)), true)] (some 21) (.call false) (c1
 (.cst (.func (.func 12) #[] #[])))) (s [(2, p (x 20) (x 21) (.cst (.bool false)))])))) .ret))))))
def cf4 : CF := ⟨1, 22, [(.var 2)], bd4⟩
def tr4 : List Nat := [0, 1, 2, 3, 4, 5, 6, 7, 8, 9, 10, 12, 14, 20, 28, 36, 44, 49, 55, 58, 65, 66]
def bd5 : Stm :=
 q (q (h 2 .box (c1 (x 0))) (s [(3, .cst (.bool false))])) (q (.cond (b .gtr (n1 .len (x 1)) (i 80)) (q (q (cl 8 12 .nil) (s [(3, x 8)])) .ret) .skip) (q (q (cl
 9 21 (c2 (n1 (.ld 3 true) (x 2)) (x 1))) (s [(5, ix 1 (x 9)), (4, ix 0 (x 9))])) (q (q (cl 10 22 (c2 (n1 (.ld 3 true) (x 2)) (x 1))) (s [(7, ix 1 (x 10)), (6,
 ix 0 (x 10))])) (q (q (cl 11 15 (c2 (x 4) (x 6))) (q (.hv [(12, p (x 11) (b .eql (x 5) (x 7)) (.cst (.bool false)))] [] [(p (x 11) (b .eql (x 5) (x 7)) (.cst
 (.bool false)), true)] (some 13) (.call false) (c1 (.cst (.func (.func 12) #[] #[])))) (s [(3, p (x 12) (x 13) (.cst (.bool false)))]))) .ret))))
def cf5 : CF := ⟨2, 14, [(.var 3)], bd5⟩
def tr5 : List Nat := [0, 1, 2, 4, 5, 6, 7, 8, 12, 16, 22, 27, 33, 34]
def bd6 : Stm :=
 q (q (h 1 .box (c1 (x 0))) (s [(2, .cst (.bool false))])) (q (q (cl 7 16 (c1 (n1 (.ld 7 true) (x 1)))) (.cond (n1 (.un .not) (x 7)) (q (q (cl 8 12 .nil) (s [(2,
 x 8)])) .ret) .skip)) (q (q (cl 9 23 (c3 (n1 (.ld 5 true) (fa 0 (x 1))) (ld (fa 5 (x 1))) (ld (fa 6 (x 1))))) (q (.hv [(11, ix 1 (x 9)), (10, ix 0 (x 9))] []
 [] (some 3) (.alloc [.slice none 0 0, .slice none 0 0]) .nil) (q (.hv [] [] [] none (.st 2) (c2 (x 3) (x 10))) (s [(4, x 11)])))) (q (q (cl 12 24 (c3 (n1 (.ld
 5 true) (fa 0 (x 1))) (ld (fa 5 (x 1))) (ld (fa 6 (x 1))))) (q (.hv [(14, ix 1 (x 12)), (13, ix 0 (x 12))] [] [] (some 5) (.alloc [.slice none 0 0, .slice
 none 0 0]) .nil) (q (.hv [] [] [] none (.st 2) (c2 (x 5) (x 13))) (s [(6, x 14)])))) (q (q (cl 15 15 (c2 (ld (fa 0 (x 3))) (ld (fa 0 (x 5))))) (q (.hv [(16, x
 15)] [] [(x 15, true)] (some 17) (.call false) (c3 (.cst (.func (.func 15) #[] #[])) (ld (fa 1 (x 3))) (ld (fa 1 (x 5))))) (q (.hv [(18, p (p (x 16) (x 17)
 (.cst (.bool false))) (b .eql (x 4) (x 6)) (.cst (.bool false)))] [] [(p (p (x 16) (x 17) (.cst (.bool false))) (b .eql (x 4) (x 6)) (.cst (.bool false)),
 true)] (some 19) (.call false) (c1 (.cst (.func (.func 12) #[] #[])))) (s [(2, p (x 18) (x 19) (.cst (.bool false)))])))) .ret))))
def cf6 : CF := ⟨1, 20, [(.var 2)], bd6⟩
def tr6 : List Nat := [0, 1, 2, 3, 4, 5, 6, 8, 10, 18, 19, 20, 28, 29, 30, 35, 36, 41, 48, 49]
def bd7 : Stm :=
 q (q (h 2 .box (c1 (x 0))) (s [(3, .cst (.bool false))])) (q (q (cl 16 16 (c1 (n1 (.ld 7 true) (x 2)))) (q (.hv [(17, n1 (.un .not) (x 16))] [] [(n1 (.un .not)
 (x 16), false)] (some 18) (.call false) (c2 (.cst (.func (.func 25) #[] #[])) (n1 (.ld 5 true) (fa 0 (x 2))))) (.cond (p (p (p (x 17) (.cst (.bool true)) (n1
 (.un .not) (x 18))) (.cst (.bool true)) (b .gtr (n1 .len (x 1)) (i 100))) (.cst (.bool true)) (b .gtr (n1 .len (ld (fa 5 (x 2)))) (i 300))) (q (q (cl 19 12
 .nil) (s [(3, x 19)])) .ret) .skip))) (q (q (cl 20 17 (c2 (n1 (.ld 5 true) (fa 0 (x 2))) (ld (fa 5 (x 2))))) (s [(5, ix 1 (x 20)), (4, ix 0 (x 20))])) (q
 (.cond (b .neq (x 5) (i 0)) (q (q (cl 21 12 .nil) (s [(3, x 21)])) .ret) .skip) (q (q (cl 22 26 (c (n1 (.ld 3 true) (fa 0 (fa 0 (x 2)))) (c3 (x 4) (x 1) (ld
 (fa 6 (x 2)))))) (s [(9, ix 3 (x 22)), (8, ix 2 (x 22)), (7, ix 1 (x 22)), (6, ix 0 (x 22))])) (q (s [(10, .cst (.slice none 0 0))]) (q (q (s [(24, i 0), (23,
 n1 .len (x 7))]) (.block 0 (.loop (q (.cond (b .lss (x 24) (x 23)) .skip (.exit 0)) (q (.block 1 (q (s [(11, x 24)]) (.cond (ld (n2 (.iAddr 1) (x 7) (x 11)))
 (q (.hv [(25, x 10)] [] [] (some 26) (.bSl [.int .i64 0] 1 [0]) (c1 (x 11))) (q (h 27 (.app 1 [.int .i64 0]) (c2 (x 25) (x 26))) (s [(10, x 27)]))) .skip)))
 (s [(24, b .add (x 24) (i 1))])))))) (q (q (.hv [(28, b .neq (n1 .len (x 4)) (b .add (n1 .len (ld (fa 5 (x 2)))) (ld (fa 3 (fa 0 (x 2))))))] [] [(b .neq (n1
 .len (x 4)) (b .add (n1 .len (ld (fa 5 (x 2)))) (ld (fa 3 (fa 0 (x 2))))), false)] (some 29) (.call false) (c3 (.cst (.func (.func 15) #[] #[])) (n2 (.sl 1
 false true false) (x 4) (n1 .len (ld (fa 5 (x 2))))) (ld (fa 5 (x 2))))) (.cond (p (x 28) (.cst (.bool true)) (n1 (.un .not) (x 29))) (q (s [(3, .cst (.bool
 false))]) .ret) .skip)) (q (.cond (b .gtr (b .add (b .mul (i 2) (x 8)) (x 9)) (ld (fa 3 (fa 0 (x 2))))) (q (q (cl 30 12 .nil) (s [(3, x 30)])) .ret) .skip) (q
 (q (cl 31 23 (c3 (n1 (.ld 5 true) (fa 0 (x 2))) (x 6) (x 10))) (q (.hv [(33, ix 1 (x 31)), (32, ix 0 (x 31))] [] [] (some 12) (.alloc [.slice none 0 0, .slice
 none 0 0]) .nil) (q (.hv [] [] [] none (.st 2) (c2 (x 12) (x 32))) (s [(13, x 33)])))) (q (s [(14, .cst (.slice none 0 0))]) (q (q (s [(35, i 0), (34, n1 .len
 (x 6))]) (.block 2 (.loop (q (.cond (b .lss (x 35) (x 34)) .skip (.exit 2)) (q (.block 3 (q (s [(15, x 35)]) (.cond (b .neq (ld (n2 (.iAddr 1) (x 6) (x 15)))
 (ld (n2 (.iAddr 1) (x 4) (x 15)))) (q (.hv [(36, x 14)] [] [] (some 37) (.bSl [.int .i64 0] 1 [0]) (c1 (x 15))) (q (h 38 (.app 1 [.int .i64 0]) (c2 (x 36) (x
 37))) (s [(14, x 38)]))) .skip))) (s [(35, b .add (x 35) (i 1))])))))) (q (q (.hv [(39, b .eql (x 13) (i 0))] [] [(b .eql (x 13) (i 0), true)] (some 40)
 (.call false) (c3 (.cst (.func (.func 15) #[] #[])) (ld (fa 0 (x 12))) (x 4))) (q (.hv [(41, p (x 39) (x 40) (.cst (.bool false)))] [] [(p (x 39) (x 40) (.cst
 (.bool false)), true)] (some 42) (.call false) (c3 (.cst (.func (.func 15) #[] #[])) (ld (fa 1 (x 12))) (x 14))) (q (.hv [(43, p (x 41) (x 42) (.cst (.bool
 false)))] [] [(p (x 41) (x 42) (.cst (.bool false)), true)] (some 44) (.call false) (c1 (.cst (.func (.func 12) #[] #[])))) (s [(3, p (x 43) (x 44) (.cst
 (.bool false)))])))) .ret))))))))))))
def cf7 : CF := ⟨2, 45, [(.var 3)], bd7⟩
def tr7 : List Nat := [0, 1, 2, 4, 5, 6, 7, 8, 9, 10, 11, 12, 13, 14, 15, 16, 18, 20, 23, 37, 43, 48, 57, 63, 64, 71, 73, 74, 86, 94, 105, 111, 112, 113, 115, 116, 128, 130, 131, 135, 139, 141, 145, 147, 148]
def bd8 : Stm :=
 q (q (h 1 .box (c1 (x 0))) (s [(2, .cst (.bool false))])) (q (q (cl 13 16 (c1 (n1 (.ld 7 true) (x 1)))) (.cond (n1 (.un .not) (x 13)) (q (q (cl 14 12 .nil) (s
 [(2, x 14)])) .ret) .skip)) (q (q (cl 15 23 (c3 (n1 (.ld 5 true) (fa 0 (x 1))) (ld (fa 5 (x 1))) (ld (fa 6 (x 1))))) (q (.hv [(17, ix 1 (x 15)), (16, ix 0 (x
 15))] [] [] (some 3) (.alloc [.slice none 0 0, .slice none 0 0]) .nil) (q (.hv [] [] [] none (.st 2) (c2 (x 3) (x 16))) (s [(4, x 17)])))) (q (.cond (b .neq
 (x 4) (i 0)) (q (q (.hv [(18, p (b .eql (n1 .len (ld (fa 0 (x 3)))) (i 0)) (b .eql (n1 .len (ld (fa 1 (x 3)))) (i 0)) (.cst (.bool false)))] [] [(p (b .eql
 (n1 .len (ld (fa 0 (x 3)))) (i 0)) (b .eql (n1 .len (ld (fa 1 (x 3)))) (i 0)) (.cst (.bool false)), true)] (some 19) (.call false) (c1 (.cst (.func (.func 12)
 #[] #[])))) (s [(2, p (x 18) (x 19) (.cst (.bool false)))])) .ret) .skip) (q (q (cl 20 19 (c2 (n1 (.ld 5 true) (fa 0 (x 1))) (ld (fa 0 (x 3))))) (s [(6, ix 1
 (x 20)), (5, ix 0 (x 20))])) (q (.cond (p (p (b .neq (x 6) (i 0)) (.cst (.bool true)) (b .neq (n1 .len (x 5)) (ld (fa 3 (fa 0 (x 1)))))) (.cst (.bool true))
 (b .neq (n1 .len (ld (fa 0 (x 3)))) (n1 .len (ld (fa 5 (x 1)))))) (q (s [(2, .cst (.bool false))]) .ret) .skip) (q (q (s [(22, i 0), (21, n1 .len (x 5))])
 (.block 0 (.loop (q (.cond (b .lss (x 22) (x 21)) .skip (.exit 0)) (q (.block 1 (q (s [(7, x 22)]) (.cond (b .neq (ld (n2 (.iAddr 1) (x 5) (x 7))) (i 0)) (q
 (s [(2, .cst (.bool false))]) .ret) .skip))) (s [(22, b .add (x 22) (i 1))])))))) (q (q (h 23 (.mkSl [.bool false]) (c2 (n1 .len (ld (fa 5 (x 1)))) (n1 .len
 (ld (fa 5 (x 1)))))) (s [(8, x 23)])) (q (s [(9, i 0)]) (q (q (s [(25, i 0), (24, n1 .len (ld (fa 6 (x 1))))]) (.block 2 (.loop (q (.cond (b .lss (x 25) (x
 24)) .skip (.exit 2)) (q (.block 3 (q (s [(10, x 25)]) (q (.cond (p (b .lss (ld (n2 (.iAddr 1) (ld (fa 6 (x 1))) (x 10))) (i 0)) (.cst (.bool true)) (b .geq
 (ld (n2 (.iAddr 1) (ld (fa 6 (x 1))) (x 10))) (n1 .len (x 8)))) (q (s [(2, .cst (.bool false))]) .ret) .skip) (q (.cond (n1 (.un .not) (ld (n2 (.iAddr 1) (x
 8) (ld (n2 (.iAddr 1) (ld (fa 6 (x 1))) (x 10)))))) (s [(9, b .add (x 9) (i 1))]) .skip) (.hv [] [] [] none (.st 1) (c2 (n2 (.iAddr 1) (x 8) (ld (n2 (.iAddr
 1) (ld (fa 6 (x 1))) (x 10)))) (.cst (.bool true)))))))) (s [(25, b .add (x 25) (i 1))])))))) (q (s [(11, i 0)]) (q (q (s [(27, i 0), (26, n1 .len (ld (fa 0
 (x 3))))]) (.block 4 (.loop (q (.cond (b .lss (x 27) (x 26)) .skip (.exit 4)) (q (.block 5 (q (s [(12, x 27)]) (.cond (b .neq (ld (n2 (.iAddr 1) (ld (fa 0 (x
 3))) (x 12))) (ld (n2 (.iAddr 1) (ld (fa 5 (x 1))) (x 12)))) (q (.cond (p (b .geq (x 11) (n1 .len (ld (fa 1 (x 3))))) (.cst (.bool true)) (b .neq (ld (n2
 (.iAddr 1) (ld (fa 1 (x 3))) (x 11))) (x 12))) (q (s [(2, .cst (.bool false))]) .ret) .skip) (q (s [(11, b .add (x 11) (i 1))]) (.cond (n1 (.un .not) (ld (n2
 (.iAddr 1) (x 8) (x 12)))) (s [(9, b .add (x 9) (i 2))]) .skip))) .skip))) (s [(27, b .add (x 27) (i 1))])))))) (q (q (.hv [(28, p (b .eql (x 11) (n1 .len (ld
 (fa 1 (x 3))))) (b .leq (x 9) (ld (fa 3 (fa 0 (x 1))))) (.cst (.bool false)))] [] [(p (b .eql (x 11) (n1 .len (ld (fa 1 (x 3))))) (b .leq (x 9) (ld (fa 3 (fa
 0 (x 1))))) (.cst (.bool false)), true)] (some 29) (.call false) (c1 (.cst (.func (.func 12) #[] #[])))) (s [(2, p (x 28) (x 29) (.cst (.bool false)))]))
 .ret))))))))))))
def cf8 : CF := ⟨1, 30, [(.var 2)], bd8⟩
def tr8 : List Nat := [0, 1, 2, 3, 4, 5, 6, 7, 8, 9, 10, 11, 12, 14, 16, 24, 25, 26, 39, 40, 47, 70, 71, 83, 86, 87, 127, 128, 178, 179]
def bd9 : Stm :=
 q (q (h 3 .box (c1 (x 0))) (s [(4, .cst (.bool false))])) (q (q (.hv [(14, n1 (.ld 3 true) (fa 0 (fa 0 (x 3))))] [] [] (some 5) (.alloc [.int .i64 0, .int .i64
 0, .int .i64 0]) .nil) (.hv [] [] [] none (.st 3) (c2 (x 5) (x 14)))) (q (q (cl 15 16 (c1 (n1 (.ld 7 true) (x 3)))) (q (.hv [(16, n1 (.un .not) (x 15))] []
 [(n1 (.un .not) (x 15), false)] (some 17) (.call false) (c2 (.cst (.func (.func 25) #[] #[])) (n1 (.ld 5 true) (fa 0 (x 3))))) (q (.hv [(18, p (p (x 16) (.cst
 (.bool true)) (n1 (.un .not) (x 17))) (.cst (.bool true)) (b .neq (n1 .len (x 1)) (n1 .len (ld (fa 5 (x 3))))))] [] [(p (p (x 16) (.cst (.bool true)) (n1 (.un
 .not) (x 17))) (.cst (.bool true)) (b .neq (n1 .len (x 1)) (n1 .len (ld (fa 5 (x 3))))), false)] (some 19) (.call false) (c3 (.cst (.func (.func 27) #[] #[]))
 (n1 (.ld 3 true) (x 5)) (x 2))) (.cond (p (x 18) (.cst (.bool true)) (n1 (.un .not) (x 19))) (q (q (cl 20 12 .nil) (s [(4, x 20)])) .ret) .skip)))) (q (q (cl
 21 17 (c2 (n1 (.ld 5 true) (fa 0 (x 3))) (ld (fa 5 (x 3))))) (s [(7, ix 1 (x 21)), (6, ix 0 (x 21))])) (q (q (cl 22 17 (c2 (n1 (.ld 5 true) (fa 0 (x 3))) (x
 1))) (s [(9, ix 1 (x 22)), (8, ix 0 (x 22))])) (q (.cond (p (b .neq (x 7) (i 0)) (.cst (.bool true)) (b .neq (x 9) (i 0))) (q (q (cl 23 12 .nil) (s [(4, x
 23)])) .ret) .skip) (q (.cond (p (b .neq (n1 .len (x 6)) (b .add (n1 .len (ld (fa 5 (x 3)))) (ld (fa 3 (fa 0 (x 3)))))) (.cst (.bool true)) (b .neq (n1 .len
 (x 8)) (n1 .len (x 6)))) (q (s [(4, .cst (.bool false))]) .ret) .skip) (q (s [(10, .cst (.slice none 0 0))]) (q (q (s [(25, i 0), (24, n1 .len (x 6))])
 (.block 0 (.loop (q (.cond (b .lss (x 25) (x 24)) .skip (.exit 0)) (q (.block 1 (q (s [(11, x 25)]) (q (.hv [(28, ld (n2 (.iAddr 1) (x 6) (x 11))), (27, n1
 (.ld 3 true) (x 5)), (26, x 10)] [] [] (some 29) (.call true) (c (.cst (.func (.func 29) #[] #[])) (c3 (n1 (.ld 3 true) (x 5)) (x 2) (ld (n2 (.iAddr 1) (x 8)
 (x 11)))))) (q (cl 30 28 (c3 (x 27) (x 28) (x 29))) (q (h 31 (.bSl [.int .i64 0] 1 [0]) (c1 (x 30))) (q (h 32 (.app 1 [.int .i64 0]) (c2 (x 26) (x 31))) (s
 [(10, x 32)]))))))) (s [(25, b .add (x 25) (i 1))])))))) (q (q (cl 33 17 (c2 (n1 (.ld 5 true) (fa 0 (x 3))) (n2 (.sl 1 false true false) (x 10) (n1 .len (ld
 (fa 5 (x 3))))))) (s [(13, ix 1 (x 33)), (12, ix 0 (x 33))])) (q (q (.hv [(34, b .eql (x 13) (i 0))] [] [(b .eql (x 13) (i 0), true)] (some 35) (.call false)
 (c3 (.cst (.func (.func 15) #[] #[])) (x 12) (x 10))) (q (.hv [(36, p (x 34) (x 35) (.cst (.bool false)))] [] [(p (x 34) (x 35) (.cst (.bool false)), true)]
 (some 37) (.call false) (c1 (.cst (.func (.func 12) #[] #[])))) (s [(4, p (x 36) (x 37) (.cst (.bool false)))]))) .ret))))))))))
def cf9 : CF := ⟨3, 38, [(.var 4)], bd9⟩
def tr9 : List Nat := [0, 1, 2, 3, 6, 7, 8, 9, 10, 11, 12, 13, 14, 15, 18, 20, 22, 25, 36, 39, 42, 48, 55, 64, 83, 84, 87, 88, 92, 99, 100, 101, 102, 112, 117, 120, 122, 123]
def bd10 : Stm :=
 q (q (h 3 .box (c1 (x 0))) (q (h 4 (.alloc [.int .i64 0, .int .i64 0, .int .i64 0, .int .i64 0, .int .i64 0]) .nil) (s [(5, i 0)]))) (q (q (cl 6 30 (c1 (n1 (.ld
 3 true) (x 3)))) (.cond (n1 (.un .not) (x 6)) (q (q (.hv [] [] [] none (.st 5) (c2 (x 4) (.node (.build [.int .i64 0, .int .i64 0, .int .i64 0, .int .i64 0,
 .int .i64 0] []) .nil))) (s [(5, i 1)])) .ret) .skip)) (q (q (cl 7 31 (c3 (n1 (.ld 3 true) (x 3)) (x 1) (x 2))) (.cond (n1 (.un .not) (x 7)) (q (q (.hv [] []
 [] none (.st 5) (c2 (x 4) (.node (.build [.int .i64 0, .int .i64 0, .int .i64 0, .int .i64 0, .int .i64 0] []) .nil))) (s [(5, i 3)])) .ret) .skip)) (q (q
 (.hv [] [] [] none (.st 5) (c2 (x 4) (.node (.build [.int .i64 0, .int .i64 0, .int .i64 0, .int .i64 0, .int .i64 0] [(0, 3), (3, 1), (4, 1)]) (c3 (n1 (.ld 3
 true) (x 3)) (x 1) (x 2))))) (s [(5, i 0)])) .ret)))
def cf10 : CF := ⟨3, 8, [(.node (.ld 5 true) (.cons (.var 4) .nil)), (.var 5)], bd10⟩
def tr10 : List Nat := [0, 1, 2, 3, 6, 7, 9, 15]
def bd11 : Stm :=
 q (q (h 3 .box (c1 (x 0))) (q (h 4 (.alloc [.int .i64 0, .int .i64 0, .int .i64 0, .int .i64 0, .int .i64 0]) .nil) (s [(5, i 0)]))) (q (q (cl 7 32 (c1 (n1 (.ld
 3 true) (x 3)))) (.cond (n1 (.un .not) (x 7)) (q (q (.hv [] [] [] none (.st 5) (c2 (x 4) (.node (.build [.int .i64 0, .int .i64 0, .int .i64 0, .int .i64 0,
 .int .i64 0] []) .nil))) (s [(5, i 1)])) .ret) .skip)) (q (q (.hv [(8, .node (.build [.int .i64 0, .int .i64 0, .int .i64 0, .int .i64 0, .int .i64 0] [(0,
 3), (3, 1), (4, 1)]) (c3 (n1 (.ld 3 true) (x 3)) (x 1) (x 2)))] [] [] (some 6) (.alloc [.int .i64 0, .int .i64 0, .int .i64 0, .int .i64 0, .int .i64 0])
 .nil) (.hv [] [] [] none (.st 5) (c2 (x 6) (x 8)))) (q (q (cl 9 25 (c1 (n1 (.ld 5 true) (x 6)))) (.cond (n1 (.un .not) (x 9)) (q (q (.hv [] [] [] none (.st 5)
 (c2 (x 4) (.node (.build [.int .i64 0, .int .i64 0, .int .i64 0, .int .i64 0, .int .i64 0] []) .nil))) (s [(5, i 3)])) .ret) .skip)) (q (q (.hv [] [] [] none
 (.st 5) (c2 (x 4) (n1 (.ld 5 true) (x 6)))) (s [(5, i 0)])) .ret))))
def cf11 : CF := ⟨3, 10, [(.node (.ld 5 true) (.cons (.var 4) .nil)), (.var 5)], bd11⟩
def tr11 : List Nat := [0, 1, 2, 3, 6, 7, 8, 10, 16, 18]
def bd12 : Stm :=
 q (s [(0, .cst (.bool false))]) (q (q (.hv [(16, n2 (.build [.int .i64 0, .int .i64 0, .int .i64 0] [(0, 1), (1, 1)]) (i 7) (i 7))] [] [] (some 1) (.alloc [.int
 .i64 0, .int .i64 0, .int .i64 0]) .nil) (.hv [] [] [] none (.st 3) (c2 (x 1) (x 16)))) (q (q (cl 17 10 (c3 (n1 (.ld 3 true) (x 1)) (i 2) (i 0))) (q (.hv
 [(19, ix 1 (x 17)), (18, ix 0 (x 17))] [] [] (some 2) (.alloc [.int .i64 0, .int .i64 0, .int .i64 0, .int .i64 0, .int .i64 0]) .nil) (q (.hv [] [] [] none
 (.st 5) (c2 (x 2) (x 18))) (s [(3, x 19)])))) (q (q (cl 20 13 (c1 (n1 (.ld 5 true) (x 2)))) (s [(5, ix 1 (x 20)), (4, ix 0 (x 20))])) (q (q (.hv [(21, n1 (.ld
 5 true) (x 2))] [] [] (some 22) (.bSl [.int .i64 0] 1 [0]) (c1 (i 1))) (q (cl 23 17 (c2 (x 21) (x 22))) (s [(7, ix 1 (x 23)), (6, ix 0 (x 23))]))) (q (q (.hv
 [(24, n1 (.ld 5 true) (x 2))] [] [] (some 25) (.bSl [.int .i64 0] 3 [0, 1, 2]) (c3 (i 1) (i 3) (i 4))) (q (cl 26 23 (c3 (x 24) (x 25) (.cst (.slice none 0
 0)))) (q (.hv [(28, ix 1 (x 26)), (27, ix 0 (x 26))] [] [] (some 8) (.alloc [.slice none 0 0, .slice none 0 0]) .nil) (q (.hv [] [] [] none (.st 2) (c2 (x 8)
 (x 27))) (s [(9, x 28)]))))) (q (q (.hv [(29, n1 (.ld 5 true) (x 2))] [] [] (some 30) (.bSl [.int .i64 0] 3 [0, 1, 2]) (c3 (i 0) (i 0) (i 3))) (q (h 31 (.bSl
 [.int .i64 0] 2 [0, 1]) (c2 (i 0) (i 1))) (q (cl 32 23 (c3 (x 29) (x 30) (x 31))) (q (.hv [(34, ix 1 (x 32)), (33, ix 0 (x 32))] [] [] (some 10) (.alloc
 [.slice none 0 0, .slice none 0 0]) .nil) (q (.hv [] [] [] none (.st 2) (c2 (x 10) (x 33))) (s [(11, x 34)])))))) (q (q (.hv [(35, n1 (.ld 3 true) (x 1))] []
 [] (some 36) (.bSl [.int .i64 0] 2 [0, 1]) (c2 (i 1) (i 3))) (q (cl 37 21 (c2 (x 35) (x 36))) (s [(13, ix 1 (x 37)), (12, ix 0 (x 37))]))) (q (q (.hv [(38, n1
 (.ld 5 true) (x 2))] [] [] (some 39) (.bSl [.int .i64 0] 3 [0, 1, 2]) (c3 (i 1) (i 3) (i 4))) (q (cl 40 19 (c2 (x 38) (x 39))) (s [(15, ix 1 (x 40)), (14, ix
 0 (x 40))]))) (q (.cond (p (p (p (p (p (p (b .neq (x 3) (i 0)) (.cst (.bool true)) (b .neq (x 5) (i 0))) (.cst (.bool true)) (b .neq (x 7) (i 0))) (.cst
 (.bool true)) (b .neq (x 9) (i 0))) (.cst (.bool true)) (b .neq (x 11) (i 0))) (.cst (.bool true)) (b .neq (x 13) (i 0))) (.cst (.bool true)) (b .neq (x 15)
 (i 0))) (q (s [(0, .cst (.bool false))]) .ret) .skip) (q (q (.hv [(41, x 4)] [] [] (some 42) (.bSl [.int .i64 0] 3 [0, 1, 2]) (c3 (i 3) (i 3) (i 1))) (q (cl
 43 15 (c2 (x 41) (x 42))) (q (.hv [(45, p (x 43) (x 6) (.cst (.tuple #[]))), (44, x 43)] [] [(x 43, true)] (some 46) (.bSl [.int .i64 0] 3 [0, 1, 2]) (c3 (i
 1) (i 3) (i 3))) (q (.hv [] [] [(x 44, true)] (some 47) (.call false) (c3 (.cst (.func (.func 15) #[] #[])) (x 45) (x 46))) (q (.hv [(48, p (x 44) (x 47)
 (.cst (.bool false)))] [] [(p (x 44) (x 47) (.cst (.bool false)), true)] (some 49) (.call false) (c3 (.cst (.func (.func 15) #[] #[])) (ld (fa 0 (x 8))) (x
 6))) (q (.hv [(51, p (p (x 48) (x 49) (.cst (.bool false))) (ld (fa 1 (x 8))) (.cst (.tuple #[]))), (50, p (x 48) (x 49) (.cst (.bool false)))] [] [(p (x 48)
 (x 49) (.cst (.bool false)), true)] (some 52) (.bSl [.int .i64 0] 1 [0]) (c1 (i 2))) (q (.hv [] [] [(x 50, true)] (some 53) (.call false) (c3 (.cst (.func
 (.func 15) #[] #[])) (x 51) (x 52))) (q (.hv [(54, p (x 50) (x 53) (.cst (.bool false)))] [] [(p (x 50) (x 53) (.cst (.bool false)), true)] (some 55) (.call
 false) (c3 (.cst (.func (.func 15) #[] #[])) (ld (fa 0 (x 10))) (x 6))) (q (.hv [(57, p (p (x 54) (x 55) (.cst (.bool false))) (ld (fa 1 (x 10))) (.cst
 (.tuple #[]))), (56, p (x 54) (x 55) (.cst (.bool false)))] [] [(p (x 54) (x 55) (.cst (.bool false)), true)] (some 58) (.bSl [.int .i64 0] 2 [0, 1]) (c2 (i
 0) (i 1))) (q (.hv [] [] [(x 56, true)] (some 59) (.call false) (c3 (.cst (.func (.func 15) #[] #[])) (x 57) (x 58))) (q (.hv [(61, p (p (x 56) (x 59) (.cst
 (.bool false))) (x 12) (.cst (.tuple #[]))), (60, p (x 56) (x 59) (.cst (.bool false)))] [] [(p (x 56) (x 59) (.cst (.bool false)), true)] (some 62) (.bSl
 [.int .i64 0] 2 [0, 1]) (c2 (i 1) (i 4))) (q (.hv [] [] [(x 60, true)] (some 63) (.call false) (c3 (.cst (.func (.func 15) #[] #[])) (x 61) (x 62))) (q (.hv
 [(65, p (p (x 60) (x 63) (.cst (.bool false))) (x 14) (.cst (.tuple #[]))), (64, p (x 60) (x 63) (.cst (.bool false)))] [] [(p (x 60) (x 63) (.cst (.bool
 false)), true)] (some 66) (.bSl [.int .i64 0] 2 [0, 1]) (c2 (i 1) (i 1))) (q (.hv [] [] [(x 64, true)] (some 67) (.call false) (c3 (.cst (.func (.func 15) #[]
 #[])) (x 65) (x 66))) (s [(0, p (x 64) (x 67) (.cst (.bool false)))]))))))))))))))) .ret))))))))))
def cf12 : CF := ⟨0, 68, [(.var 0)], bd12⟩
def tr12 : List Nat := [0, 1, 2, 3, 4, 5, 6, 7, 8, 9, 10, 11, 12, 13, 14, 15, 16, 19, 20, 21, 24, 28, 29, 30, 34, 35, 36, 37, 38, 40, 41, 42, 43, 44, 45, 47, 48, 49, 53, 54, 55, 84, 85, 86, 87, 88, 89, 90, 92, 96, 98, 100, 101, 102, 104, 108, 110, 112, 113, 114, 116, 117, 118, 119, 121, 122, 123, 124]
def bd13 : Stm :=
 q (q (h 1 .box (c1 (x 0))) (s [(3, i 0), (2, .cst (.slice none 0 0))])) (q (q (cl 7 33 (c2 (n1 (.ld 5 true) (x 1)) (.cst (.slice none 0 0)))) (.cond (n1 (.un
 .not) (x 7)) (q (s [(3, i 1), (2, .cst (.slice none 0 0))]) .ret) .skip)) (q (q (cl 8 34 (c1 (n1 (.ld 3 true) (fa 0 (x 1))))) (q (h 4 (.alloc [.int .i64 0,
 .int .i64 0, .slice none 0 0, .slice none 0 0]) .nil) (.hv [] [] [] none (.st 4) (c2 (x 4) (x 8))))) (q (q (h 9 (.mkSl [.int .i64 0]) (c2 (ld (fa 3 (x 1)))
 (ld (fa 3 (x 1))))) (s [(5, x 9)])) (q (q (s [(11, i 0), (10, n1 .len (x 5))]) (.block 0 (.loop (q (.cond (b .lss (x 11) (x 10)) .skip (.exit 0)) (q (.block 1
 (q (s [(6, x 11)]) (q (.hv [(13, x 6), (12, x 5)] [] [] (some 14) (.call false) (c3 (.cst (.func (.func 35) #[] #[])) (n1 (.ld 4 true) (x 4)) (b .add (ld (fa
 4 (x 1))) (x 6)))) (.hv [] [] [] none (.st 1) (c2 (n2 (.iAddr 1) (x 12) (x 13)) (x 14)))))) (s [(11, b .add (x 11) (i 1))])))))) (q (q (cl 15 36 (c2 (n1 (.ld
 3 true) (fa 0 (x 1))) (x 5))) (s [(3, ix 1 (x 15)), (2, ix 0 (x 15))])) .ret)))))
def cf13 : CF := ⟨1, 16, [(.var 2), (.var 3)], bd13⟩
def tr13 : List Nat := [0, 1, 2, 3, 4, 5, 6, 8, 12, 15, 17, 18, 21, 22, 28, 34]
def bd14 : Stm :=
 q (q (h 1 .box (c1 (x 0))) (s [(3, i 0), (2, .cst (.slice none 0 0))])) (q (q (cl 4 25 (c1 (n1 (.ld 5 true) (x 1)))) (.cond (n1 (.un .not) (x 4)) (q (s [(3, i
 1), (2, .cst (.slice none 0 0))]) .ret) .skip)) (q (q (cl 5 37 (c1 (n1 (.ld 5 true) (x 1)))) (s [(3, i 0), (2, x 5)])) .ret))
def cf14 : CF := ⟨1, 6, [(.var 2), (.var 3)], bd14⟩
def tr14 : List Nat := [0, 1, 2, 3, 5, 8]
def bd15 : Stm :=
 q (s [(2, .cst (.bool false))]) (q (.cond (b .neq (n1 .len (x 0)) (n1 .len (x 1))) (q (s [(2, .cst (.bool false))]) .ret) .skip) (q (q (s [(3, i 0)]) (.block 0
 (.loop (q (.cond (b .lss (x 3) (n1 .len (x 0))) .skip (.exit 0)) (q (.block 1 (.cond (b .neq (ld (n2 (.iAddr 1) (x 0) (x 3))) (ld (n2 (.iAddr 1) (x 1) (x
 3)))) (q (s [(2, .cst (.bool false))]) .ret) .skip)) (s [(3, b .add (x 3) (i 1))])))))) (q (s [(2, .cst (.bool true))]) .ret)))
def cf15 : CF := ⟨2, 4, [(.var 2)], bd15⟩
def tr15 : List Nat := [0, 1, 4, 5]
def bd16 : Stm :=
 q (q (h 1 .box (c1 (x 0))) (s [(2, .cst (.bool false))])) (q (s [(2, p (p (b .leq (ld (fa 3 (fa 0 (x 1)))) (i 60)) (b .leq (n1 .len (ld (fa 5 (x 1)))) (i 400))
 (.cst (.bool false))) (b .leq (n1 .len (ld (fa 6 (x 1)))) (i 400)) (.cst (.bool false)))]) .ret)
def cf16 : CF := ⟨1, 3, [(.var 2)], bd16⟩
def tr16 : List Nat := [0, 1, 2]
def bd17 : Stm :=
 q (q (h 2 .box (c1 (x 0))) (s [(4, i 0), (3, .cst (.slice none 0 0))])) (q (q (cl 15 33 (c2 (n1 (.ld 5 true) (x 2)) (x 1))) (.cond (n1 (.un .not) (x 15)) (q (s
 [(4, i 1), (3, .cst (.slice none 0 0))]) .ret) .skip)) (q (q (.hv [(16, b .eql (n1 .len (x 1)) (i 0))] [] [(b .eql (n1 .len (x 1)) (i 0), false)] (some 17)
 (.call false) (c3 (.cst (.func (.func 38) #[] #[])) (n1 (.ld 5 true) (x 2)) (b .add (n1 .len (x 1)) (ld (fa 3 (x 2)))))) (.cond (p (x 16) (.cst (.bool true))
 (n1 (.un .not) (x 17))) (q (s [(4, i 7), (3, .cst (.slice none 0 0))]) .ret) .skip)) (q (q (cl 18 13 (c1 (n1 (.ld 5 true) (x 2)))) (s [(6, ix 1 (x 18)), (5,
 ix 0 (x 18))])) (q (.cond (b .neq (x 6) (i 0)) (q (s [(4, x 6), (3, .cst (.slice none 0 0))]) .ret) .skip) (q (s [(7, b .add (n1 .len (x 1)) (ld (fa 3 (x
 2))))]) (q (q (h 19 (.mkSl [.int .i64 0]) (c2 (x 7) (x 7))) (s [(8, x 19)])) (q (q (s [(22, i 0), (21, n1 .len (x 1)), (20, x 1)]) (.block 0 (.loop (q (.cond
 (b .lss (x 22) (x 21)) .skip (.exit 0)) (q (.block 1 (q (s [(10, ld (n2 (.iAddr 1) (x 20) (x 22))), (9, x 22)]) (.hv [] [] [] none (.st 1) (c2 (n2 (.iAddr 1)
 (x 8) (b .sub (b .sub (x 7) (i 1)) (x 9))) (x 10))))) (s [(22, b .add (x 22) (i 1))])))))) (q (q (.hv [(25, x 5), (23, n1 (.ld 3 true) (fa 0 (x 2)))] [] []
 (some 24) (.call true) (c2 (.cst (.func (.func 40) #[] #[])) (x 8))) (q (cl 26 39 (c3 (x 23) (x 24) (x 25))) (.sets [(6, ix 2 (x 26)), (11, ix 1 (x 26))] [ix
 0 (x 26)]))) (q (.cond (b .neq (x 6) (i 0)) (q (s [(4, x 6), (3, .cst (.slice none 0 0))]) .ret) .skip) (q (q (h 27 (.mkSl [.int .i64 0]) (c2 (x 7) (x 7))) (s
 [(12, x 27)])) (q (.hv [] [] [] none (.cpy 1) (c2 (x 12) (x 1))) (q (q (s [(30, i 0), (29, n1 .len (x 11)), (28, x 11)]) (.block 2 (.loop (q (.cond (b .lss (x
 30) (x 29)) .skip (.exit 2)) (q (.block 3 (q (s [(14, ld (n2 (.iAddr 1) (x 28) (x 30))), (13, x 30)]) (q (q (.hv [(32, b .sub (b .sub (x 7) (i 1)) (x 13)),
 (31, x 12)] [] [] (some 33) (.call false) (c (.cst (.func (.func 41) #[] #[])) (c3 (n1 (.ld 3 true) (fa 0 (x 2))) (i 0) (x 14)))) (q (.hv [(34, ix 1 (x 33))]
 [] [] none (.st 1) (c2 (n2 (.iAddr 1) (x 31) (x 32)) (ix 0 (x 33)))) (s [(6, x 34)]))) (.cond (b .neq (x 6) (i 0)) (q (s [(4, x 6), (3, .cst (.slice none 0
 0))]) .ret) .skip)))) (s [(30, b .add (x 30) (i 1))])))))) (q (s [(4, i 0), (3, x 12)]) .ret)))))))))))))
def cf17 : CF := ⟨2, 35, [(.var 3), (.var 4)], bd17⟩
def tr17 : List Nat := [0, 1, 2, 4, 5, 6, 7, 8, 9, 10, 11, 13, 14, 15, 16, 19, 24, 31, 36, 48, 49, 50, 51, 66, 68, 69, 70, 78, 82, 83, 84, 90, 94, 98, 100]
def bd18 : Stm :=
 q (q (h 2 .box (c1 (x 0))) (s [(4, i 0), (3, .cst (.slice none 0 0))])) (q (q (cl 13 25 (c1 (n1 (.ld 5 true) (x 2)))) (q (.hv [(14, n1 (.un .not) (x 13))] []
 [(n1 (.un .not) (x 13), false)] (some 15) (.call false) (c3 (.cst (.func (.func 42) #[] #[])) (n1 (.ld 3 true) (fa 0 (x 2))) (x 1))) (.cond (p (x 14) (.cst
 (.bool true)) (n1 (.un .not) (x 15))) (q (s [(4, i 1), (3, .cst (.slice none 0 0))]) .ret) .skip))) (q (.cond (p (b .lss (n1 .len (x 1)) (i 1)) (.cst (.bool
 true)) (b .gtr (n1 .len (x 1)) (b .sub (b .sub (ld (fa 1 (fa 0 (x 2)))) (i 1)) (ld (fa 3 (x 2)))))) (q (s [(4, i 7), (3, .cst (.slice none 0 0))]) .ret)
 .skip) (q (q (cl 16 37 (c1 (n1 (.ld 5 true) (x 2)))) (s [(5, x 16)])) (q (s [(6, .cst (.slice none 0 0))]) (q (q (h 17 (.app 1 [.int .i64 0]) (c2 (x 6) (x
 1))) (s [(6, x 17)])) (q (q (h 18 (.mkSl [.int .i64 0]) (c2 (ld (fa 3 (x 2))) (ld (fa 3 (x 2))))) (s [(7, x 18)])) (q (q (s [(8, i 0)]) (.block 0 (.loop (q
 (.cond (b .lss (x 8) (n1 .len (x 1))) .skip (.exit 0)) (q (.block 1 (q (q (cl 19 28 (c3 (n1 (.ld 3 true) (fa 0 (x 2))) (ld (n2 (.iAddr 1) (x 1) (x 8))) (ld
 (n2 (.iAddr 1) (x 7) (i 0))))) (s [(9, x 19)])) (q (s [(10, i 0)]) (.block 2 (.loop (q (.cond (b .lss (x 10) (ld (fa 3 (x 2)))) .skip (.exit 2)) (q (.block 3
 (q (s [(11, i 0)]) (q (.cond (b .lss (b .add (x 10) (i 1)) (ld (fa 3 (x 2)))) (s [(11, ld (n2 (.iAddr 1) (x 7) (b .add (x 10) (i 1))))]) .skip) (q (.hv [(23,
 x 11), (22, n1 (.ld 3 true) (fa 0 (x 2))), (21, x 10), (20, x 7)] [] [] (some 24) (.call true) (c (.cst (.func (.func 29) #[] #[])) (c3 (n1 (.ld 3 true) (fa 0
 (x 2))) (x 9) (ld (n2 (.iAddr 1) (x 5) (b .sub (b .sub (ld (fa 3 (x 2))) (i 1)) (x 10))))))) (q (cl 25 43 (c3 (x 22) (x 23) (x 24))) (.hv [] [] [] none (.st
 1) (c2 (n2 (.iAddr 1) (x 20) (x 21)) (x 25)))))))) (s [(10, b .add (x 10) (i 1))])))))))) (s [(8, b .add (x 8) (i 1))])))))) (q (q (s [(12, i 0)]) (.block 4
 (.loop (q (.cond (b .lss (x 12) (ld (fa 3 (x 2)))) .skip (.exit 4)) (q (.block 5 (q (.hv [(26, x 6)] [] [] (some 27) (.call false) (c (.cst (.func (.func 43)
 #[] #[])) (c3 (n1 (.ld 3 true) (fa 0 (x 2))) (i 0) (ld (n2 (.iAddr 1) (x 7) (x 12)))))) (q (h 28 (.bSl [.int .i64 0] 1 [0]) (c1 (x 27))) (q (h 29 (.app 1
 [.int .i64 0]) (c2 (x 26) (x 28))) (s [(6, x 29)]))))) (s [(12, b .add (x 12) (i 1))])))))) (q (s [(4, i 0), (3, x 6)]) .ret)))))))))
def cf18 : CF := ⟨2, 30, [(.var 3), (.var 4)], bd18⟩
def tr18 : List Nat := [0, 1, 2, 4, 5, 6, 7, 8, 9, 10, 11, 12, 13, 15, 17, 21, 40, 43, 46, 62, 79, 80, 82, 83, 95, 96, 104, 111, 112, 113]
def bd19 : Stm :=
 q (q (h 2 .box (c1 (x 0))) (s [(4, i 0), (3, .cst (.slice none 0 0))])) (q (q (cl 5 33 (c2 (n1 (.ld 5 true) (x 2)) (x 1))) (.cond (n1 (.un .not) (x 5)) (q (s
 [(4, i 1), (3, .cst (.slice none 0 0))]) .ret) .skip)) (q (q (cl 6 38 (c2 (n1 (.ld 5 true) (x 2)) (n1 .len (x 1)))) (.cond (n1 (.un .not) (x 6)) (q (s [(4, i
 7), (3, .cst (.slice none 0 0))]) .ret) .skip)) (q (q (.hv [(9, x 1), (8, n1 (.ld 5 true) (x 2))] [] [] (some 7) (.call true) (c2 (.cst (.func (.func 34) #[]
 #[])) (n1 (.ld 3 true) (fa 0 (x 2))))) (q (cl 10 44 (c3 (x 7) (x 8) (x 9))) (s [(4, i 0), (3, x 10)]))) .ret)))
def cf19 : CF := ⟨2, 11, [(.var 3), (.var 4)], bd19⟩
def tr19 : List Nat := [0, 1, 2, 4, 5, 8, 13, 17, 18, 19, 20]
def bd20 : Stm :=
 q (q (h 2 .box (c1 (x 0))) (s [(4, i 0), (3, .cst (.slice none 0 0))])) (q (q (cl 5 25 (c1 (n1 (.ld 5 true) (x 2)))) (q (.hv [(6, n1 (.un .not) (x 5))] [] [(n1
 (.un .not) (x 5), false)] (some 7) (.call false) (c3 (.cst (.func (.func 42) #[] #[])) (n1 (.ld 3 true) (fa 0 (x 2))) (x 1))) (.cond (p (x 6) (.cst (.bool
 true)) (n1 (.un .not) (x 7))) (q (s [(4, i 1), (3, .cst (.slice none 0 0))]) .ret) .skip))) (q (.cond (p (b .leq (n1 .len (x 1)) (ld (fa 3 (x 2)))) (.cst
 (.bool true)) (b .gtr (n1 .len (x 1)) (b .sub (ld (fa 1 (fa 0 (x 2)))) (i 1)))) (q (s [(4, i 7), (3, .cst (.slice none 0 0))]) .ret) .skip) (q (q (cl 8 45 (c2
 (n1 (.ld 5 true) (x 2)) (x 1))) (s [(4, i 0), (3, x 8)])) .ret)))
def cf20 : CF := ⟨2, 9, [(.var 3), (.var 4)], bd20⟩
def tr20 : List Nat := [0, 1, 2, 4, 5, 7, 9, 13, 32]
def bd21 : Stm :=
 q (q (h 2 .box (c1 (x 0))) (s [(4, i 0), (3, .cst (.slice none 0 0))])) (q (q (cl 5 30 (c1 (n1 (.ld 3 true) (x 2)))) (q (.hv [(6, n1 (.un .not) (x 5))] [] [(n1
 (.un .not) (x 5), false)] (some 7) (.call false) (c3 (.cst (.func (.func 46) #[] #[])) (n1 (.ld 3 true) (x 2)) (x 1))) (.cond (p (x 6) (.cst (.bool true)) (n1
 (.un .not) (x 7))) (q (s [(4, i 1), (3, .cst (.slice none 0 0))]) .ret) .skip))) (q (.cond (b .gtr (n1 .len (x 1)) (i 4095)) (q (s [(4, i 4), (3, .cst (.slice
 none 0 0))]) .ret) .skip) (q (q (cl 8 34 (c1 (n1 (.ld 3 true) (x 2)))) (q (cl 9 47 (c2 (x 8) (x 1))) (s [(4, i 0), (3, x 9)]))) .ret)))
def cf21 : CF := ⟨2, 10, [(.var 3), (.var 4)], bd21⟩
def tr21 : List Nat := [0, 1, 2, 4, 5, 7, 9, 12, 19, 21]
def bd22 : Stm :=
 q (q (h 2 .box (c1 (x 0))) (s [(4, i 0), (3, .cst (.slice none 0 0))])) (q (q (cl 6 32 (c1 (n1 (.ld 3 true) (x 2)))) (q (.hv [(7, n1 (.un .not) (x 6))] [] [(n1
 (.un .not) (x 6), false)] (some 8) (.call false) (c3 (.cst (.func (.func 42) #[] #[])) (n1 (.ld 3 true) (x 2)) (x 1))) (.cond (p (x 7) (.cst (.bool true)) (n1
 (.un .not) (x 8))) (q (s [(4, i 1), (3, .cst (.slice none 0 0))]) .ret) .skip))) (q (.cond (b .gtr (n1 .len (x 1)) (i 4095)) (q (s [(4, i 4), (3, .cst (.slice
 none 0 0))]) .ret) .skip) (q (q (cl 9 48 (c2 (n1 (.ld 3 true) (x 2)) (x 1))) (.sets [(5, ix 0 (x 9))] [ix 1 (x 9)])) (q (s [(4, i 0), (3, x 5)]) .ret))))
def cf22 : CF := ⟨2, 10, [(.var 3), (.var 4)], bd22⟩
def tr22 : List Nat := [0, 1, 2, 4, 5, 6, 9, 11, 14, 23]
def bd23 : Stm :=
 q (q (h 3 .box (c1 (x 0))) (q (h 4 (.alloc [.slice none 0 0, .slice none 0 0]) .nil) (s [(5, i 0)]))) (q (q (cl 11 33 (c2 (n1 (.ld 5 true) (x 3)) (x 1))) (.cond
 (n1 (.un .not) (x 11)) (q (q (.hv [] [] [] none (.st 2) (c2 (x 4) (.node (.build [.slice none 0 0, .slice none 0 0] []) .nil))) (s [(5, i 1)])) .ret) .skip))
 (q (q (s [(14, i 0), (13, n1 .len (x 2)), (12, x 2)]) (.block 0 (.loop (q (.cond (b .lss (x 14) (x 13)) .skip (.exit 0)) (q (.block 1 (q (s [(6, ld (n2
 (.iAddr 1) (x 12) (x 14)))]) (.cond (p (b .lss (x 6) (i 0)) (.cst (.bool true)) (b .geq (x 6) (n1 .len (x 1)))) (q (q (.hv [] [] [] none (.st 2) (c2 (x 4)
 (.node (.build [.slice none 0 0, .slice none 0 0] []) .nil))) (s [(5, i 1)])) .ret) .skip))) (s [(14, b .add (x 14) (i 1))])))))) (q (q (cl 15 38 (c2 (n1 (.ld
 5 true) (x 3)) (n1 .len (x 1)))) (.cond (n1 (.un .not) (x 15)) (q (q (.hv [] [] [] none (.st 2) (c2 (x 4) (.node (.build [.slice none 0 0, .slice none 0 0]
 []) .nil))) (s [(5, i 7)])) .ret) .skip)) (q (q (.hv [(20, n1 .len (x 1)), (18, x 1), (17, n1 (.ld 5 true) (x 3))] [] [] (some 16) (.call true) (c2 (.cst
 (.func (.func 34) #[] #[])) (n1 (.ld 3 true) (fa 0 (x 3))))) (q (h 19 (.app 1 [.int .i64 0]) (c2 (.cst (.slice none 0 0)) (x 18))) (q (h 21 (.mkSl [.bool
 false]) (c2 (x 20) (x 20))) (q (h 22 .box (c1 (.node (.build [.int .i64 0, .int .i64 0, .slice none 0 0, .slice none 0 0, .int .i64 0, .int .i64 0, .int .i64
 0, .int .i64 0, .int .i64 0, .slice none 0 0, .slice none 0 0, .int .i64 0, .slice none 0 0, .slice none 0 0, .slice none 0 0, .slice none 0 0] [(0, 4), (4,
 5), (9, 1), (10, 1)]) (c (x 16) (c3 (x 17) (x 19) (x 21)))))) (q (s [(7, x 22)]) (.dist (.cst (.slice none 0 0)) (x 3))))))) (q (q (s [(25, i 0), (24, n1 .len
 (x 2)), (23, x 2)]) (.block 2 (.loop (q (.cond (b .lss (x 25) (x 24)) .skip (.exit 2)) (q (.block 3 (q (s [(8, ld (n2 (.iAddr 1) (x 23) (x 25)))]) (.cond (n1
 (.un .not) (ld (n2 (.iAddr 1) (ld (fa 10 (n1 .nilChk (x 7)))) (x 8)))) (q (.hv [] [] [] none (.st 1) (c2 (n2 (.iAddr 1) (ld (fa 10 (n1 .nilChk (x 7)))) (x 8))
 (.cst (.bool true)))) (.hv [] [] [] none (.st 1) (c2 (fa 11 (n1 .nilChk (x 7))) (b .add (ld (fa 11 (n1 .nilChk (x 7)))) (i 1))))) .skip))) (s [(25, b .add (x
 25) (i 1))])))))) (q (q (cl 26 49 (c1 (x 7))) (.cond (n1 (.un .not) (x 26)) (q (q (.hv [] [] [] none (.st 2) (c2 (x 4) (.node (.build [.slice none 0 0, .slice
 none 0 0] []) .nil))) (s [(5, i 17)])) .ret) .skip)) (q (s [(9, .cst (.slice none 0 0))]) (q (q (s [(28, i 0), (27, n1 .len (x 1))]) (.block 4 (.loop (q
 (.cond (b .lss (x 28) (x 27)) .skip (.exit 4)) (q (.block 5 (q (s [(10, x 28)]) (.cond (b .neq (ld (n2 (.iAddr 1) (ld (fa 9 (n1 .nilChk (x 7)))) (x 10))) (ld
 (n2 (.iAddr 1) (x 1) (x 10)))) (q (.hv [(29, x 9)] [] [] (some 30) (.bSl [.int .i64 0] 1 [0]) (c1 (x 10))) (q (h 31 (.app 1 [.int .i64 0]) (c2 (x 29) (x 30)))
 (s [(9, x 31)]))) .skip))) (s [(28, b .add (x 28) (i 1))])))))) (q (q (.hv [] [] [] none (.st 2) (c2 (x 4) (n2 (.build [.slice none 0 0, .slice none 0 0] [(0,
 1), (1, 1)]) (ld (fa 9 (n1 .nilChk (x 7)))) (x 9)))) (s [(5, i 0)])) .ret)))))))))
def cf23 : CF := ⟨3, 32, [(.node (.ld 2 true) (.cons (.var 4) .nil)), (.var 5)], bd23⟩
def tr23 : List Nat := [0, 1, 2, 3, 6, 7, 9, 10, 12, 13, 14, 17, 20, 21, 22, 39, 44, 45, 46, 47, 49, 50, 52, 53, 54, 55, 82, 86, 87, 102, 104, 105]
def bd24 : Stm :=
 q (q (h 3 .box (c1 (x 0))) (q (h 4 (.alloc [.slice none 0 0, .slice none 0 0]) .nil) (s [(5, i 0)]))) (q (q (cl 9 25 (c1 (n1 (.ld 5 true) (x 3)))) (q (.hv [(10,
 n1 (.un .not) (x 9))] [] [(n1 (.un .not) (x 9), false)] (some 11) (.call false) (c3 (.cst (.func (.func 42) #[] #[])) (n1 (.ld 3 true) (fa 0 (x 3))) (x 1)))
 (.cond (p (x 10) (.cst (.bool true)) (n1 (.un .not) (x 11))) (q (q (.hv [] [] [] none (.st 2) (c2 (x 4) (.node (.build [.slice none 0 0, .slice none 0 0] [])
 .nil))) (s [(5, i 1)])) .ret) .skip))) (q (q (s [(6, i 0)]) (.block 0 (.loop (q (.cond (b .lss (x 6) (n1 .len (x 2))) .skip (.exit 0)) (q (.block 1 (.cond (p
 (b .lss (ld (n2 (.iAddr 1) (x 2) (x 6))) (i 0)) (.cst (.bool true)) (b .geq (ld (n2 (.iAddr 1) (x 2) (x 6))) (n1 .len (x 1)))) (q (q (.hv [] [] [] none (.st
 2) (c2 (x 4) (.node (.build [.slice none 0 0, .slice none 0 0] []) .nil))) (s [(5, i 1)])) .ret) .skip)) (s [(6, b .add (x 6) (i 1))])))))) (q (.cond (p (b
 .leq (n1 .len (x 1)) (ld (fa 3 (x 3)))) (.cst (.bool true)) (b .gtr (n1 .len (x 1)) (b .sub (ld (fa 1 (fa 0 (x 3)))) (i 1)))) (q (q (.hv [] [] [] none (.st 2)
 (c2 (x 4) (.node (.build [.slice none 0 0, .slice none 0 0] []) .nil))) (s [(5, i 7)])) .ret) .skip) (q (q (cl 12 50 (c2 (n1 .len (x 1)) (x 2))) (s [(8, ix 1
 (x 12)), (7, ix 0 (x 12))])) (q (.cond (b .gtr (x 8) (ld (fa 3 (x 3)))) (q (q (.hv [] [] [] none (.st 2) (c2 (x 4) (.node (.build [.slice none 0 0, .slice
 none 0 0] []) .nil))) (s [(5, i 17)])) .ret) .skip) (q (q (cl 13 51 (c (n1 (.ld 5 true) (x 3)) (c3 (x 1) (x 7) (x 8)))) (q (.hv [(14, ix 1 (x 13))] [] [] none
 (.st 2) (c2 (x 4) (ix 0 (x 13)))) (s [(5, x 14)]))) .ret))))))
def cf24 : CF := ⟨3, 15, [(.node (.ld 2 true) (.cons (.var 4) .nil)), (.var 5)], bd24⟩
def tr24 : List Nat := [0, 1, 2, 3, 6, 7, 8, 9, 10, 12, 14, 18, 62, 74, 76]
def bd25 : Stm :=
 q (q (h 1 .box (c1 (x 0))) (s [(2, .cst (.bool false))])) (q (s [(3, ld (fa 1 (fa 0 (x 1))))]) (q (q (cl 4 32 (c1 (n1 (.ld 3 true) (fa 0 (x 1))))) (s [(2, p (p
 (p (p (x 4) (b .geq (ld (fa 3 (x 1))) (i 1)) (.cst (.bool false))) (b .leq (ld (fa 3 (x 1))) (b .sub (x 3) (i 2))) (.cst (.bool false))) (b .geq (ld (fa 4 (x
 1))) (i 0)) (.cst (.bool false))) (b .leq (ld (fa 4 (x 1))) (b .sub (x 3) (i 2))) (.cst (.bool false)))])) .ret))
def cf25 : CF := ⟨1, 5, [(.var 2)], bd25⟩
def tr25 : List Nat := [0, 1, 2, 3, 9]
def bd26 : Stm :=
 q (q (h 4 .box (c1 (x 0))) (s [(8, i 0), (7, i 0), (6, .cst (.slice none 0 0)), (5, .cst (.slice none 0 0))])) (q (q (h 16 (.bSl [.int .i64 0] 0 []) .nil) (q (h
 17 (.app 1 [.int .i64 0]) (c2 (x 16) (x 1))) (s [(9, x 17)]))) (q (q (s [(19, i 0), (18, n1 .len (x 2))]) (.block 0 (.loop (q (.cond (b .lss (x 19) (x 18))
 .skip (.exit 0)) (q (.block 1 (q (s [(10, x 19)]) (q (.hv [(20, p (b .geq (ld (fa 0 (n2 (.iAddr 2) (x 2) (x 10)))) (i 0)) (b .lss (ld (fa 0 (n2 (.iAddr 2) (x
 2) (x 10)))) (n1 .len (x 9))) (.cst (.bool false)))] [] [(p (b .geq (ld (fa 0 (n2 (.iAddr 2) (x 2) (x 10)))) (i 0)) (b .lss (ld (fa 0 (n2 (.iAddr 2) (x 2) (x
 10)))) (n1 .len (x 9))) (.cst (.bool false)), true)] (some 21) (.call false) (c3 (.cst (.func (.func 27) #[] #[])) (n1 (.ld 3 true) (x 4)) (ld (fa 1 (n2
 (.iAddr 2) (x 2) (x 10)))))) (.cond (p (x 20) (x 21) (.cst (.bool false))) (q (.hv [(23, ld (fa 0 (n2 (.iAddr 2) (x 2) (x 10)))), (22, x 9)] [] [] (some 24)
 (.call true) (c (.cst (.func (.func 28) #[] #[])) (c3 (n1 (.ld 3 true) (x 4)) (ld (n2 (.iAddr 1) (x 9) (ld (fa 0 (n2 (.iAddr 2) (x 2) (x 10)))))) (ld (fa 1
 (n2 (.iAddr 2) (x 2) (x 10))))))) (.hv [] [] [] none (.st 1) (c2 (n2 (.iAddr 1) (x 22) (x 23)) (x 24)))) .skip)))) (s [(19, b .add (x 19) (i 1))])))))) (q (q
 (h 25 (.mkSl [.bool false]) (c2 (n1 .len (x 9)) (n1 .len (x 9)))) (s [(11, x 25)])) (q (s [(13, i 0), (12, i 0)]) (q (q (s [(27, i 0), (26, n1 .len (x 3))])
 (.block 2 (.loop (q (.cond (b .lss (x 27) (x 26)) .skip (.exit 2)) (q (.block 3 (q (s [(14, x 27)]) (.cond (p (p (b .geq (ld (n2 (.iAddr 1) (x 3) (x 14))) (i
 0)) (b .lss (ld (n2 (.iAddr 1) (x 3) (x 14))) (n1 .len (x 9))) (.cst (.bool false))) (n1 (.un .not) (ld (n2 (.iAddr 1) (x 11) (ld (n2 (.iAddr 1) (x 3) (x
 14)))))) (.cst (.bool false))) (q (.hv [] [] [] none (.st 1) (c2 (n2 (.iAddr 1) (x 11) (ld (n2 (.iAddr 1) (x 3) (x 14)))) (.cst (.bool true)))) (s [(13, b
 .add (x 13) (i 1))])) .skip))) (s [(27, b .add (x 27) (i 1))])))))) (q (q (s [(29, i 0), (28, n1 .len (x 9))]) (.block 4 (.loop (q (.cond (b .lss (x 29) (x
 28)) .skip (.exit 4)) (q (.block 5 (q (s [(15, x 29)]) (.cond (p (b .neq (ld (n2 (.iAddr 1) (x 9) (x 15))) (ld (n2 (.iAddr 1) (x 1) (x 15)))) (n1 (.un .not)
 (ld (n2 (.iAddr 1) (x 11) (x 15)))) (.cst (.bool false))) (s [(12, b .add (x 12) (i 1))]) .skip))) (s [(29, b .add (x 29) (i 1))])))))) (q (s [(8, x 13), (7,
 x 12), (6, x 11), (5, x 9)]) .ret)))))))
def cf26 : CF := ⟨4, 30, [(.var 5), (.var 6), (.var 7), (.var 8)], bd26⟩
def tr26 : List Nat := [0, 1, 2, 3, 4, 8, 9, 10, 11, 12, 13, 14, 15, 16, 17, 18, 19, 21, 23, 24, 43, 50, 52, 57, 72, 77, 79, 80, 117, 118]
def bd27 : Stm :=
 q (q (h 2 .box (c1 (x 0))) (s [(3, .cst (.bool false))])) (q (s [(3, p (b .geq (x 1) (i 0)) (b .lss (x 1) (ld (fa 1 (x 2)))) (.cst (.bool false)))]) .ret)
def cf27 : CF := ⟨2, 4, [(.var 3)], bd27⟩
def tr27 : List Nat := [0, 1, 2, 4]
def bd28 : Stm :=
 q (q (h 3 .box (c1 (x 0))) (s [(4, i 0)])) (q (.cond (b .eql (ld (fa 0 (x 3))) (i 2)) (q (s [(4, b .xor (x 1) (x 2))]) .ret) .skip) (q (s [(4, b .rem (b .add (x
 1) (x 2)) (ld (fa 1 (x 3))))]) .ret))
def cf28 : CF := ⟨3, 5, [(.var 4)], bd28⟩
def tr28 : List Nat := [0, 1, 2, 3, 6]
def bd29 : Stm :=
 q (q (h 3 .box (c1 (x 0))) (s [(4, i 0)])) (q (.cond (b .neq (ld (fa 0 (x 3))) (i 2)) (q (s [(4, b .rem (b .mul (x 1) (x 2)) (ld (fa 1 (x 3))))]) .ret) .skip)
 (q (s [(5, i 0)]) (q (q (s [(6, i 0)]) (.block 0 (.loop (q (.cond (b .gtr (b .shr (x 2) (n1 (.cvt .u64) (x 6))) (i 0)) .skip (.exit 0)) (q (.block 1 (.cond (b
 .eql (b .and (b .shr (x 2) (n1 (.cvt .u64) (x 6))) (i 1)) (i 1)) (s [(5, b .xor (x 5) (b .shl (x 1) (n1 (.cvt .u64) (x 6))))]) .skip)) (s [(6, b .add (x 6) (i
 1))])))))) (q (q (cl 7 52 (c2 (x 5) (ld (fa 2 (x 3))))) (s [(4, x 7)])) .ret))))
def cf29 : CF := ⟨3, 8, [(.var 4)], bd29⟩
def tr29 : List Nat := [0, 1, 2, 3, 6, 7, 8, 40]
def bd30 : Stm :=
 q (q (h 1 .box (c1 (x 0))) (s [(2, .cst (.bool false))])) (q (.cond (b .eql (ld (fa 2 (x 1))) (i 0)) (q (q (.hv [(3, p (p (b .gtr (ld (fa 1 (x 1))) (i 2)) (b
 .leq (ld (fa 1 (x 1))) (i 4096)) (.cst (.bool false))) (n2 (.eqA false [1, 1, 1]) (n1 (.ld 3 true) (x 1)) (n2 (.build [.int .i64 0, .int .i64 0, .int .i64 0]
 [(0, 1), (1, 1)]) (ld (fa 1 (x 1))) (ld (fa 1 (x 1))))) (.cst (.bool false)))] [] [(p (p (b .gtr (ld (fa 1 (x 1))) (i 2)) (b .leq (ld (fa 1 (x 1))) (i 4096))
 (.cst (.bool false))) (n2 (.eqA false [1, 1, 1]) (n1 (.ld 3 true) (x 1)) (n2 (.build [.int .i64 0, .int .i64 0, .int .i64 0] [(0, 1), (1, 1)]) (ld (fa 1 (x
 1))) (ld (fa 1 (x 1))))) (.cst (.bool false)), true)] (some 4) (.call false) (c2 (.cst (.func (.func 53) #[] #[])) (ld (fa 1 (x 1))))) (s [(2, p (x 3) (x 4)
 (.cst (.bool false)))])) .ret) .skip) (q (q (.hv [(5, b .lss (ld (fa 2 (x 1))) (i 2))] [] [(b .lss (ld (fa 2 (x 1))) (i 2), false)] (some 6) (.call false) (c2
 (.cst (.func (.func 54) #[] #[])) (ld (fa 2 (x 1))))) (.cond (p (x 5) (.cst (.bool true)) (b .gtr (x 6) (i 12))) (q (s [(2, .cst (.bool false))]) .ret)
 .skip)) (q (q (.hv [(9, ld (fa 2 (x 1))), (7, n1 (.ld 3 true) (x 1))] [] [] (some 8) (.call true) (c2 (.cst (.func (.func 54) #[] #[])) (ld (fa 2 (x 1))))) (q
 (.hv [(10, n2 (.eqA false [1, 1, 1]) (x 7) (.node (.build [.int .i64 0, .int .i64 0, .int .i64 0] [(0, 1), (1, 1), (2, 1)]) (c3 (i 2) (b .shl (i 1) (x 8)) (x
 9))))] [] [(n2 (.eqA false [1, 1, 1]) (x 7) (.node (.build [.int .i64 0, .int .i64 0, .int .i64 0] [(0, 1), (1, 1), (2, 1)]) (c3 (i 2) (b .shl (i 1) (x 8)) (x
 9))), true)] (some 11) (.call false) (c2 (.cst (.func (.func 55) #[] #[])) (ld (fa 2 (x 1))))) (s [(2, p (x 10) (x 11) (.cst (.bool false)))]))) .ret)))
def cf30 : CF := ⟨1, 12, [(.var 2)], bd30⟩
def tr30 : List Nat := [0, 1, 2, 23, 26, 31, 34, 37, 40, 43, 46, 49]
def bd31 : Stm :=
 q (q (h 3 .box (c1 (x 0))) (s [(4, .cst (.bool false))])) (q (s [(4, p (p (p (b .geq (x 1) (i 1)) (b .leq (x 1) (b .sub (ld (fa 1 (x 3))) (i 2))) (.cst (.bool
 false))) (b .geq (x 2) (i 0)) (.cst (.bool false))) (b .leq (x 2) (b .sub (ld (fa 1 (x 3))) (i 2))) (.cst (.bool false)))]) .ret)
def cf31 : CF := ⟨3, 5, [(.var 4)], bd31⟩
def tr31 : List Nat := [0, 1, 2, 3, 6]
def bd32 : Stm :=
 q (q (h 1 .box (c1 (x 0))) (s [(2, .cst (.bool false))])) (q (.cond (b .eql (ld (fa 0 (x 1))) (i 2)) (q (q (cl 4 56 (c1 (ld (fa 1 (x 1))))) (s [(3, x 4)])) (q
 (q (.hv [(5, p (p (p (b .geq (x 3) (i 1)) (b .leq (x 3) (i 12)) (.cst (.bool false))) (b .eql (ld (fa 1 (x 1))) (b .shl (i 1) (n1 (.cvt .u64) (x 3)))) (.cst
 (.bool false))) (b .lss (ld (fa 2 (x 1))) (b .shl (i 1) (n1 (.cvt .u64) (b .add (x 3) (i 1))))) (.cst (.bool false)))] [] [(p (p (p (b .geq (x 3) (i 1)) (b
 .leq (x 3) (i 12)) (.cst (.bool false))) (b .eql (ld (fa 1 (x 1))) (b .shl (i 1) (n1 (.cvt .u64) (x 3)))) (.cst (.bool false))) (b .lss (ld (fa 2 (x 1))) (b
 .shl (i 1) (n1 (.cvt .u64) (b .add (x 3) (i 1))))) (.cst (.bool false)), true)] (some 6) (.call false) (c3 (.cst (.func (.func 57) #[] #[])) (ld (fa 2 (x 1)))
 (x 3))) (s [(2, p (x 5) (x 6) (.cst (.bool false)))])) .ret)) .skip) (q (q (.hv [(7, p (p (p (b .eql (ld (fa 0 (x 1))) (ld (fa 1 (x 1)))) (b .eql (ld (fa 2 (x
 1))) (i 0)) (.cst (.bool false))) (b .geq (ld (fa 1 (x 1))) (i 3)) (.cst (.bool false))) (b .leq (ld (fa 1 (x 1))) (i 4096)) (.cst (.bool false)))] [] [(p (p
 (p (b .eql (ld (fa 0 (x 1))) (ld (fa 1 (x 1)))) (b .eql (ld (fa 2 (x 1))) (i 0)) (.cst (.bool false))) (b .geq (ld (fa 1 (x 1))) (i 3)) (.cst (.bool false)))
 (b .leq (ld (fa 1 (x 1))) (i 4096)) (.cst (.bool false)), true)] (some 8) (.call false) (c2 (.cst (.func (.func 58) #[] #[])) (ld (fa 1 (x 1))))) (s [(2, p (x
 7) (x 8) (.cst (.bool false)))])) .ret))
def cf32 : CF := ⟨1, 9, [(.var 2)], bd32⟩
def tr32 : List Nat := [0, 1, 2, 3, 9, 33, 37, 59, 62]
def bd33 : Stm :=
 q (q (h 2 .box (c1 (x 0))) (s [(3, .cst (.bool false))])) (q (q (cl 4 30 (c1 (n1 (.ld 3 true) (fa 0 (x 2))))) (q (.hv [(5, x 4)] [] [(x 4, true)] (some 6)
 (.call false) (c (.cst (.func (.func 31) #[] #[])) (c3 (n1 (.ld 3 true) (fa 0 (x 2))) (ld (fa 3 (x 2))) (ld (fa 4 (x 2)))))) (q (.hv [(7, p (x 5) (x 6) (.cst
 (.bool false)))] [] [(p (x 5) (x 6) (.cst (.bool false)), true)] (some 8) (.call false) (c3 (.cst (.func (.func 46) #[] #[])) (n1 (.ld 3 true) (fa 0 (x 2)))
 (x 1))) (s [(3, p (x 7) (x 8) (.cst (.bool false)))])))) .ret)
def cf33 : CF := ⟨2, 9, [(.var 3)], bd33⟩
def tr33 : List Nat := [0, 1, 2, 4, 7, 8, 15, 17, 21]
def bd34 : Stm :=
 q (q (h 1 .box (c1 (x 0))) (h 2 (.alloc [.int .i64 0, .int .i64 0, .slice none 0 0, .slice none 0 0]) .nil)) (q (q (cl 7 59 (c1 (n1 (.ld 3 true) (x 1)))) (.sets
 [(3, ix 0 (x 7))] [ix 1 (x 7)])) (q (q (.hv [(11, ld (fa 1 (x 1))), (9, ld (fa 1 (x 1))), (8, ld (fa 0 (x 1)))] [] [] (some 10) (.mkSl [.int .i64 0]) (c2 (b
 .sub (ld (fa 1 (x 1))) (i 1)) (b .sub (ld (fa 1 (x 1))) (i 1)))) (q (h 12 (.mkSl [.int .i64 0]) (c2 (x 11) (x 11))) (q (.hv [(13, .node (.build [.int .i64 0,
 .int .i64 0, .slice none 0 0, .slice none 0 0] [(0, 1), (1, 1), (2, 1), (3, 1)]) (c (x 8) (c3 (x 9) (x 10) (x 12))))] [] [] (some 4) (.alloc [.int .i64 0,
 .int .i64 0, .slice none 0 0, .slice none 0 0]) .nil) (.hv [] [] [] none (.st 4) (c2 (x 4) (x 13)))))) (q (s [(5, i 1)]) (q (q (s [(15, i 0), (14, n1 .len (ld
 (fa 2 (x 4))))]) (.block 0 (.loop (q (.cond (b .lss (x 15) (x 14)) .skip (.exit 0)) (q (.block 1 (q (s [(6, x 15)]) (q (q (.hv [(20, n2 (.iAddr 1) (ld (fa 2
 (x 4))) (x 6)), (19, x 6), (18, x 5), (17, ld (fa 3 (x 4))), (16, fa 3 (x 4))] [] [] none (.st 1) (c2 (n2 (.iAddr 1) (ld (fa 2 (x 4))) (x 6)) (x 5))) (q (.hv
 [] [] [] none (.st 1) (c2 (n2 (.iAddr 1) (x 17) (x 18)) (x 19))) (.dist (x 20) (x 16)))) (q (cl 21 60 (c3 (n1 (.ld 3 true) (x 1)) (x 5) (x 3))) (.sets [(5, ix
 0 (x 21))] [ix 1 (x 21)]))))) (s [(15, b .add (x 15) (i 1))])))))) (q (.hv [] [] [] none (.st 4) (c2 (x 2) (n1 (.ld 4 true) (x 4)))) .ret)))))
def cf34 : CF := ⟨1, 22, [(.node (.ld 4 true) (.cons (.var 2) .nil))], bd34⟩
def tr34 : List Nat := [0, 1, 2, 3, 5, 6, 7, 10, 14, 16, 20, 22, 23, 24, 27, 28, 34, 35, 36, 38, 39, 45]
def bd35 : Stm :=
 q (q (h 2 .box (c1 (x 0))) (s [(3, i 0)])) (q (s [(3, ld (n2 (.iAddr 1) (ld (fa 2 (x 2))) (b .rem (x 1) (b .sub (ld (fa 1 (x 2))) (i 1)))))]) .ret)
def cf35 : CF := ⟨2, 4, [(.var 3)], bd35⟩
def tr35 : List Nat := [0, 1, 2, 4]
def bd36 : Stm :=
 q (q (h 2 .box (c1 (x 0))) (s [(4, i 0), (3, .cst (.slice none 0 0))])) (q (q (cl 8 61 (c2 (n1 (.ld 3 true) (x 2)) (.cst (.slice none 0 0)))) (q (.hv [(9, n1
 (.un .not) (x 8))] [] [(n1 (.un .not) (x 8), false)] (some 10) (.call false) (c3 (.cst (.func (.func 62) #[] #[])) (n1 (.ld 3 true) (x 2)) (x 1))) (.cond (p
 (x 9) (.cst (.bool true)) (n1 (.un .not) (x 10))) (q (s [(4, i 1), (3, .cst (.slice none 0 0))]) .ret) .skip))) (q (.cond (b .gtr (n1 .len (x 1)) (i 4096)) (q
 (s [(4, i 4), (3, .cst (.slice none 0 0))]) .ret) .skip) (q (q (cl 11 63 (c1 (n1 (.ld 3 true) (x 2)))) (q (h 5 (.alloc [.int .i64 0, .int .i64 0, .slice none
 0 0, .slice none 0 0]) .nil) (.hv [] [] [] none (.st 4) (c2 (x 5) (x 11))))) (q (q (h 12 (.bSl [.int .i64 0] 1 [0]) (c1 (i 1))) (s [(6, x 12)])) (q (q (s
 [(15, i 0), (14, n1 .len (x 1)), (13, x 1)]) (.block 0 (.loop (q (.cond (b .lss (x 15) (x 14)) .skip (.exit 0)) (q (.block 1 (q (s [(7, ld (n2 (.iAddr 1) (x
 13) (x 15)))]) (q (cl 16 64 (c (n1 (.ld 4 true) (x 5)) (c3 (x 6) (x 7) (i 0)))) (s [(6, x 16)])))) (s [(15, b .add (x 15) (i 1))])))))) (q (s [(4, i 0), (3, x
 6)]) .ret))))))
def cf36 : CF := ⟨2, 17, [(.var 3), (.var 4)], bd36⟩
def tr36 : List Nat := [0, 1, 2, 4, 5, 6, 7, 9, 11, 13, 16, 23, 24, 25, 26, 27, 34]
def bd37 : Stm :=
 q (q (h 1 .box (c1 (x 0))) (s [(2, .cst (.slice none 0 0))])) (q (q (h 6 (.bSl [.int .i64 0] 1 [0]) (c1 (i 1))) (s [(3, x 6)])) (q (q (cl 7 65 (c1 (n1 (.ld 5
 true) (x 1)))) (s [(4, x 7)])) (q (q (s [(5, i 0)]) (.block 0 (.loop (q (.cond (b .lss (x 5) (n1 .len (x 4))) .skip (.exit 0)) (q (.block 1 (q (.hv [(12, b
 .add (n1 .len (x 3)) (i 1)), (9, x 3), (8, n1 (.ld 3 true) (fa 0 (x 1)))] [] [] (some 10) (.call true) (c (.cst (.func (.func 43) #[] #[])) (c3 (n1 (.ld 3
 true) (fa 0 (x 1))) (i 0) (ld (n2 (.iAddr 1) (x 4) (x 5)))))) (q (h 11 (.bSl [.int .i64 0] 2 [0, 1]) (c2 (x 10) (i 1))) (q (cl 13 66 (c (x 8) (c3 (x 9) (x 11)
 (x 12)))) (s [(3, x 13)]))))) (s [(5, b .add (x 5) (i 1))])))))) (q (s [(2, x 3)]) .ret))))
def cf37 : CF := ⟨1, 14, [(.var 2)], bd37⟩
def tr37 : List Nat := [0, 1, 2, 3, 4, 5, 6, 8, 16, 17, 24, 25, 28, 29]
def bd38 : Stm :=
 q (q (h 2 .box (c1 (x 0))) (s [(3, .cst (.bool false))])) (q (s [(3, p (b .gtr (x 1) (ld (fa 3 (x 2)))) (b .lss (x 1) (ld (fa 1 (fa 0 (x 2))))) (.cst (.bool
 false)))]) .ret)
def cf38 : CF := ⟨2, 4, [(.var 3)], bd38⟩
def tr38 : List Nat := [0, 1, 2, 4]
def bd39 : Stm :=
 q (q (h 3 .box (c1 (x 0))) (s [(6, i 0), (5, .cst (.slice none 0 0)), (4, .cst (.slice none 0 0))])) (q (q (.hv [(7, n1 (.ld 3 true) (x 3))] [] [] (some 8)
 (.bSl [.slice none 0 0] 2 [0, 1]) (c2 (x 1) (x 2))) (q (cl 9 61 (c2 (x 7) (x 8))) (.cond (n1 (.un .not) (x 9)) (q (s [(6, i 1), (5, .cst (.slice none 0 0)),
 (4, .cst (.slice none 0 0))]) .ret) .skip))) (q (.cond (b .eql (n1 .len (x 2)) (i 0)) (q (s [(6, i 12), (5, .cst (.slice none 0 0)), (4, .cst (.slice none 0
 0))]) .ret) .skip) (q (q (cl 10 63 (c1 (n1 (.ld 3 true) (x 3)))) (q (cl 11 67 (c3 (x 10) (x 1) (x 2))) (s [(5, ix 1 (x 11)), (4, ix 0 (x 11))]))) (q (s [(6, i
 0), (5, x 5), (4, x 4)]) .ret))))
def cf39 : CF := ⟨3, 12, [(.var 4), (.var 5), (.var 6)], bd39⟩
def tr39 : List Nat := [0, 1, 2, 3, 6, 7, 8, 9, 12, 13, 20, 23]
def bd40 : Stm :=
 q (s [(1, .cst (.slice none 0 0))]) (q (s [(2, n1 .len (x 0))]) (q (.block 0 (.loop (q (.cond (p (b .gtr (x 2) (i 0)) (b .eql (ld (n2 (.iAddr 1) (x 0) (b .sub
 (x 2) (i 1)))) (i 0)) (.cst (.bool false))) .skip (.exit 0)) (.block 1 (s [(2, b .sub (x 2) (i 1))]))))) (q (q (h 3 (.app 1 [.int .i64 0]) (c2 (.cst (.slice
 none 0 0)) (n2 (.sl 1 false true false) (x 0) (x 2)))) (s [(1, x 3)])) .ret)))
def cf40 : CF := ⟨1, 4, [(.var 1)], bd40⟩
def tr40 : List Nat := [0, 2, 3, 21]
def bd41 : Stm :=
 q (q (h 3 .box (c1 (x 0))) (s [(5, i 0), (4, i 0)])) (q (q (.hv [(6, n1 (.ld 3 true) (x 3))] [] [] (some 7) (.bSl [.int .i64 0] 2 [0, 1]) (c2 (x 1) (x 2))) (q
 (cl 8 68 (c2 (x 6) (x 7))) (.cond (n1 (.un .not) (x 8)) (q (s [(5, i 1), (4, i 0)]) .ret) .skip))) (q (.cond (b .neq (ld (fa 2 (x 3))) (i 0)) (q (s [(5, i 0),
 (4, b .xor (x 1) (x 2))]) .ret) .skip) (q (s [(5, i 0), (4, b .rem (b .add (b .sub (x 1) (x 2)) (ld (fa 1 (x 3)))) (ld (fa 1 (x 3))))]) .ret)))
def cf41 : CF := ⟨3, 9, [(.var 4), (.var 5)], bd41⟩
def tr41 : List Nat := [0, 1, 2, 3, 6, 7, 8, 11, 12]
def bd42 : Stm :=
 q (q (h 2 .box (c1 (x 0))) (s [(3, .cst (.bool false))])) (q (q (s [(4, i 0)]) (.block 0 (.loop (q (.cond (b .lss (x 4) (n1 .len (x 1))) .skip (.exit 0)) (q
 (.block 1 (q (cl 5 27 (c2 (n1 (.ld 3 true) (x 2)) (ld (n2 (.iAddr 1) (x 1) (x 4))))) (.cond (n1 (.un .not) (x 5)) (q (s [(3, .cst (.bool false))]) .ret)
 .skip))) (s [(4, b .add (x 4) (i 1))])))))) (q (s [(3, .cst (.bool true))]) .ret))
def cf42 : CF := ⟨2, 6, [(.var 3)], bd42⟩
def tr42 : List Nat := [0, 1, 2, 4, 5, 17]
def bd43 : Stm :=
 q (q (h 3 .box (c1 (x 0))) (s [(4, i 0)])) (q (.cond (b .eql (ld (fa 0 (x 3))) (i 2)) (q (s [(4, b .xor (x 1) (x 2))]) .ret) .skip) (q (s [(4, b .rem (b .sub (b
 .add (x 1) (ld (fa 1 (x 3)))) (x 2)) (ld (fa 1 (x 3))))]) .ret))
def cf43 : CF := ⟨3, 5, [(.var 4)], bd43⟩
def tr43 : List Nat := [0, 1, 2, 3, 6]
def bd44 : Stm :=
 q (q (h 3 .box (c1 (x 0))) (q (h 4 .box (c1 (x 1))) (s [(5, .cst (.slice none 0 0))]))) (q (q (h 10 (.mkSl [.int .i64 0]) (c2 (ld (fa 3 (x 4))) (ld (fa 3 (x
 4))))) (s [(6, x 10)])) (q (q (s [(12, i 0), (11, n1 .len (x 6))]) (.block 0 (.loop (q (.cond (b .lss (x 12) (x 11)) .skip (.exit 0)) (q (.block 1 (q (s [(7,
 x 12)]) (q (q (cl 13 35 (c2 (n1 (.ld 4 true) (x 3)) (b .add (ld (fa 4 (x 4))) (x 7)))) (s [(8, x 13)])) (q (s [(16, i 0), (15, n1 .len (x 2)), (14, x 2)])
 (.block 2 (.loop (q (.cond (b .lss (x 16) (x 15)) .skip (.exit 2)) (q (.block 3 (q (s [(9, ld (n2 (.iAddr 1) (x 14) (x 16)))]) (q (.hv [(21, x 9), (19, n1
 (.ld 4 true) (x 3)), (18, x 7), (17, x 6)] [] [] (some 20) (.call true) (c (.cst (.func (.func 70) #[] #[])) (c3 (n1 (.ld 4 true) (x 3)) (ld (n2 (.iAddr 1) (x
 6) (x 7))) (x 8)))) (q (cl 22 69 (c3 (x 19) (x 20) (x 21))) (.hv [] [] [] none (.st 1) (c2 (n2 (.iAddr 1) (x 17) (x 18)) (x 22))))))) (s [(16, b .add (x 16)
 (i 1))]))))))))) (s [(12, b .add (x 12) (i 1))])))))) (q (s [(5, x 6)]) .ret)))
def cf44 : CF := ⟨3, 23, [(.var 5)], bd44⟩
def tr44 : List Nat := [0, 1, 2, 3, 4, 6, 7, 8, 9, 11, 14, 16, 17, 25, 26, 27, 28, 32, 33, 34, 41, 42, 43]
def bd45 : Stm :=
 q (q (h 2 .box (c1 (x 0))) (s [(3, .cst (.slice none 0 0))])) (q (q (cl 7 65 (c1 (n1 (.ld 5 true) (x 2)))) (s [(4, x 7)])) (q (s [(5, .cst (.slice none 0 0))])
 (q (q (s [(6, i 0)]) (.block 0 (.loop (q (.cond (b .lss (x 6) (n1 .len (x 4))) .skip (.exit 0)) (q (.block 1 (q (.hv [(8, x 5)] [] [] (some 9) (.call false)
 (c (.cst (.func (.func 71) #[] #[])) (c3 (n1 (.ld 3 true) (fa 0 (x 2))) (x 1) (ld (n2 (.iAddr 1) (x 4) (x 6)))))) (q (h 10 (.bSl [.int .i64 0] 1 [0]) (c1 (x
 9))) (q (h 11 (.app 1 [.int .i64 0]) (c2 (x 8) (x 10))) (s [(5, x 11)]))))) (s [(6, b .add (x 6) (i 1))])))))) (q (s [(3, x 5)]) .ret))))
def cf45 : CF := ⟨2, 12, [(.var 3)], bd45⟩
def tr45 : List Nat := [0, 1, 2, 4, 5, 6, 7, 9, 16, 24, 25, 26]
def bd46 : Stm :=
 q (q (h 2 .box (c1 (x 0))) (s [(3, .cst (.bool false))])) (q (q (s [(7, i 0), (6, n1 .len (x 1)), (5, x 1)]) (.block 0 (.loop (q (.cond (b .lss (x 7) (x 6))
 .skip (.exit 0)) (q (.block 1 (q (s [(4, ld (n2 (.iAddr 1) (x 5) (x 7)))]) (.cond (p (b .lss (x 4) (i 0)) (.cst (.bool true)) (b .geq (x 4) (ld (fa 1 (x
 2))))) (q (s [(3, .cst (.bool false))]) .ret) .skip))) (s [(7, b .add (x 7) (i 1))])))))) (q (s [(3, .cst (.bool true))]) .ret))
def cf46 : CF := ⟨2, 8, [(.var 3)], bd46⟩
def tr46 : List Nat := [0, 1, 2, 4, 6, 7, 8, 9]
def bd47 : Stm :=
 q (q (h 2 .box (c1 (x 0))) (s [(3, .cst (.slice none 0 0))])) (q (q (h 14 (.bSl [.int .i64 0] 1 [0]) (c1 (i 1))) (q (h 15 (.bSl [.int .i64 0] 1 [0]) (c1 (i 1)))
 (s [(5, x 15), (4, x 14)]))) (q (s [(8, i 1), (7, i 1), (6, i 0)]) (q (q (s [(17, i 0), (16, n1 .len (x 1))]) (.block 0 (.loop (q (.cond (b .lss (x 17) (x
 16)) .skip (.exit 0)) (q (.block 1 (q (s [(9, x 17)]) (q (s [(10, i 0)]) (q (q (s [(11, i 0)]) (.block 2 (.loop (q (.cond (p (b .leq (x 11) (x 6)) (b .lss (x
 11) (n1 .len (x 4))) (.cst (.bool false))) .skip (.exit 2)) (q (.block 3 (q (.hv [(19, x 10), (18, n1 (.ld 4 true) (x 2))] [] [] (some 20) (.call true) (c
 (.cst (.func (.func 70) #[] #[])) (c3 (n1 (.ld 4 true) (x 2)) (ld (n2 (.iAddr 1) (x 4) (x 11))) (ld (n2 (.iAddr 1) (x 1) (b .sub (x 9) (x 11))))))) (q (cl 21
 69 (c3 (x 18) (x 19) (x 20))) (s [(10, x 21)])))) (s [(11, b .add (x 11) (i 1))])))))) (q (.cond (b .eql (x 10) (i 0)) (q (s [(7, b .add (x 7) (i 1))]) (.exit
 1)) .skip) (q (q (.hv [(25, x 7), (24, x 5), (23, x 4), (22, n1 (.ld 4 true) (x 2))] [] [] (some 26) (.call true) (c (.cst (.func (.func 73) #[] #[])) (c3 (n1
 (.ld 4 true) (x 2)) (x 10) (x 8)))) (q (cl 27 72 (c (x 22) (c (x 23) (c3 (x 24) (x 25) (x 26))))) (s [(12, x 27)]))) (q (.cond (b .leq (b .mul (i 2) (x 6)) (x
 9)) (s [(7, i 1), (8, x 10), (6, b .sub (b .add (x 9) (i 1)) (x 6)), (5, x 4)]) (s [(7, b .add (x 7) (i 1))])) (s [(4, x 12)])))))))) (s [(17, b .add (x 17)
 (i 1))])))))) (q (s [(13, n1 .len (x 4))]) (q (.block 4 (.loop (q (.cond (b .eql (ld (n2 (.iAddr 1) (x 4) (b .sub (x 13) (i 1)))) (i 0)) .skip (.exit 4))
 (.block 5 (s [(13, b .sub (x 13) (i 1))]))))) (q (s [(3, n2 (.sl 1 false true false) (x 4) (x 13))]) .ret))))))
def cf47 : CF := ⟨2, 28, [(.var 3)], bd47⟩
def tr47 : List Nat := [0, 1, 2, 4, 5, 6, 7, 8, 9, 10, 11, 12, 13, 14, 15, 16, 18, 19, 33, 34, 46, 47, 52, 53, 54, 55, 59, 60]
def bd48 : Stm :=
 q (q (h 2 .box (c1 (x 0))) (s [(4, i 0), (3, .cst (.slice none 0 0))])) (q (q (h 14 (.bSl [.int .i64 0] 1 [0]) (c1 (i 1))) (q (h 15 (.bSl [.int .i64 0] 1 [0])
 (c1 (i 1))) (s [(6, x 15), (5, x 14)]))) (q (s [(9, i 1), (8, i 1), (7, i 0)]) (q (q (s [(10, i 0)]) (.block 0 (.loop (q (.cond (b .lss (x 10) (n1 .len (x
 1))) .skip (.exit 0)) (q (.block 1 (q (s [(11, i 0)]) (q (q (s [(12, i 0)]) (.block 2 (.loop (q (.cond (b .leq (x 12) (x 7)) .skip (.exit 2)) (q (.block 3 (q
 (.hv [(20, ld (n2 (.iAddr 1) (x 1) (b .sub (x 10) (x 12)))), (18, n1 (.ld 3 true) (x 2)), (17, x 11), (16, n1 (.ld 3 true) (x 2))] [] [] (some 19) (.call
 true) (c3 (.cst (.func (.func 74) #[] #[])) (x 5) (x 12))) (q (h 21 (.call true) (c (.cst (.func (.func 29) #[] #[])) (c3 (x 18) (x 19) (x 20)))) (q (cl 22 28
 (c3 (x 16) (x 17) (x 21))) (s [(11, x 22)]))))) (s [(12, b .add (x 12) (i 1))])))))) (q (.cond (b .eql (x 11) (i 0)) (q (s [(8, b .add (x 8) (i 1))]) (.exit
 1)) .skip) (q (q (.hv [(30, x 8), (27, x 11), (26, n1 (.ld 3 true) (x 2)), (25, x 6), (24, x 5), (23, n1 (.ld 3 true) (x 2))] [] [] (some 28) (.call true) (c3
 (.cst (.func (.func 76) #[] #[])) (n1 (.ld 3 true) (x 2)) (x 9))) (q (h 29 (.call true) (c (.cst (.func (.func 29) #[] #[])) (c3 (x 26) (x 27) (x 28)))) (q
 (cl 31 75 (c (x 23) (c (x 24) (c3 (x 25) (x 29) (x 30))))) (s [(13, x 31)])))) (q (.cond (b .leq (b .mul (i 2) (x 7)) (x 10)) (q (s [(6, x 5)]) (q (s [(7, b
 .sub (b .add (x 10) (i 1)) (x 7))]) (q (s [(9, x 11)]) (s [(8, i 1)])))) (s [(8, b .add (x 8) (i 1))])) (s [(5, x 13)]))))))) (s [(10, b .add (x 10) (i
 1))])))))) (q (.block 4 (.loop (q (.cond (b .eql (ld (n2 (.iAddr 1) (x 5) (b .sub (n1 .len (x 5)) (i 1)))) (i 0)) .skip (.exit 4)) (.block 5 (s [(5, n2 (.sl 1
 false true false) (x 5) (b .sub (n1 .len (x 5)) (i 1)))]))))) (q (s [(4, x 7), (3, x 5)]) .ret)))))
def cf48 : CF := ⟨2, 32, [(.var 3), (.var 4)], bd48⟩
def tr48 : List Nat := [0, 1, 2, 4, 5, 6, 7, 8, 9, 10, 11, 12, 13, 14, 15, 16, 28, 29, 30, 33, 39, 40, 41, 46, 47, 48, 49, 50, 53, 54, 55, 56]
def bd49 : Stm :=
 q (s [(1, .cst (.bool false))]) (q (q (h 4 (.bSl [.nilFunc] 6 [0, 1, 2, 3, 4, 5]) (c (n1 (.mkF 77 1) (x 0)) (c (n1 (.mkF 78 1) (x 0)) (c (n1 (.mkF 79 1) (x 0))
 (c3 (n1 (.mkF 80 1) (x 0)) (n1 (.mkF 81 1) (x 0)) (n1 (.mkF 82 1) (x 0))))))) (s [(2, x 4)])) (q (q (s [(7, i 0), (6, n1 .len (x 2)), (5, x 2)]) (.block 0
 (.loop (q (.cond (b .lss (x 7) (x 6)) .skip (.exit 0)) (q (.block 1 (q (s [(3, ld (n2 (.iAddr 1) (x 5) (x 7)))]) (q (h 8 (.call false) (c1 (x 3))) (.cond (n1
 (.un .not) (x 8)) (q (s [(1, .cst (.bool false))]) .ret) .skip)))) (s [(7, b .add (x 7) (i 1))])))))) (q (s [(1, .cst (.bool true))]) .ret)))
def cf49 : CF := ⟨1, 9, [(.var 1)], bd49⟩
def tr49 : List Nat := [0, 2, 3, 5, 18, 19, 20, 21, 26]
def bd50 : Stm :=
 q (s [(3, i 0), (2, .cst (.slice none 0 0))]) (q (q (h 7 (.mkSl [.bool false]) (c2 (x 0) (x 0))) (s [(4, x 7)])) (q (s [(5, i 0)]) (q (q (s [(6, i 0)]) (.block
 0 (.loop (q (.cond (b .lss (x 6) (n1 .len (x 1))) .skip (.exit 0)) (q (.block 1 (.cond (n1 (.un .not) (ld (n2 (.iAddr 1) (x 4) (ld (n2 (.iAddr 1) (x 1) (x
 6)))))) (q (.hv [] [] [] none (.st 1) (c2 (n2 (.iAddr 1) (x 4) (ld (n2 (.iAddr 1) (x 1) (x 6)))) (.cst (.bool true)))) (s [(5, b .add (x 5) (i 1))])) .skip))
 (s [(6, b .add (x 6) (i 1))])))))) (q (s [(3, x 5), (2, x 4)]) .ret))))
def cf50 : CF := ⟨2, 8, [(.var 2), (.var 3)], bd50⟩
def tr50 : List Nat := [0, 1, 4, 5, 6, 7, 8, 10]
def bd51 : Stm :=
 q (q (h 4 .box (c1 (x 0))) (q (h 5 (.alloc [.slice none 0 0, .slice none 0 0]) .nil) (s [(6, i 0)]))) (q (q (.hv [(24, n1 (.ld 3 true) (fa 0 (x 4)))] [] []
 (some 7) (.alloc [.int .i64 0, .int .i64 0, .int .i64 0]) .nil) (.hv [] [] [] none (.st 3) (c2 (x 7) (x 24)))) (q (q (cl 25 45 (c2 (n1 (.ld 5 true) (x 4)) (x
 1))) (s [(8, x 25)])) (q (q (cl 26 83 (c2 (n1 (.ld 3 true) (x 7)) (n1 .len (x 1)))) (s [(9, x 26)])) (q (q (h 27 (.bSl [.int .i64 0] 1 [0]) (c1 (i 1))) (s
 [(10, x 27)])) (q (q (s [(11, i 0)]) (.block 0 (.loop (q (.cond (b .lss (x 11) (n1 .len (x 1))) .skip (.exit 0)) (q (.block 1 (.cond (ld (n2 (.iAddr 1) (x 2)
 (x 11))) (q (.hv [(32, b .add (n1 .len (x 10)) (i 1)), (29, x 10), (28, n1 (.ld 3 true) (x 7))] [] [] (some 30) (.call true) (c (.cst (.func (.func 43) #[]
 #[])) (c3 (n1 (.ld 3 true) (x 7)) (i 0) (ld (n2 (.iAddr 1) (x 9) (x 11)))))) (q (h 31 (.bSl [.int .i64 0] 2 [0, 1]) (c2 (i 1) (x 30))) (q (cl 33 66 (c (x 28)
 (c3 (x 29) (x 31) (x 32)))) (s [(10, x 33)])))) .skip)) (s [(11, b .add (x 11) (i 1))])))))) (q (q (.hv [(36, x 3), (34, n1 (.ld 3 true) (x 7))] [] [] (some
 35) (.call true) (c (.cst (.func (.func 66) #[] #[])) (c (n1 (.ld 3 true) (x 7)) (c3 (x 8) (x 10) (n1 .len (x 8)))))) (q (cl 37 48 (c2 (x 34) (n2 (.sl 1 true
 false false) (x 35) (x 36)))) (s [(13, ix 1 (x 37)), (12, ix 0 (x 37))]))) (q (s [(15, .cst (.slice none 0 0)), (14, .cst (.slice none 0 0))]) (q (s [(16, i
 0)]) (q (q (s [(17, i 0)]) (.block 2 (.loop (q (.cond (b .lss (x 17) (n1 .len (x 1))) .skip (.exit 2)) (q (.block 3 (q (q (.hv [(40, p (n1 (.un .not) (ld (n2
 (.iAddr 1) (x 2) (x 17)))) (x 12) (.cst (.tuple #[]))), (39, p (n1 (.un .not) (ld (n2 (.iAddr 1) (x 2) (x 17)))) (n1 (.ld 3 true) (x 7)) (.cst (.tuple #[]))),
 (38, n1 (.un .not) (ld (n2 (.iAddr 1) (x 2) (x 17))))] [] [(n1 (.un .not) (ld (n2 (.iAddr 1) (x 2) (x 17))), true)] (some 41) (.call true) (c3 (.cst (.func
 (.func 76) #[] #[])) (n1 (.ld 3 true) (x 7)) (ld (n2 (.iAddr 1) (x 9) (x 17))))) (q (.hv [] [] [(x 38, true)] (some 42) (.call false) (c (.cst (.func (.func
 84) #[] #[])) (c3 (x 39) (x 40) (x 41)))) (s [(18, p (x 38) (b .eql (x 42) (i 0)) (.cst (.bool false)))]))) (q (.cond (x 18) (s [(16, b .add (x 16) (i 1))])
 .skip) (.cond (p (x 18) (.cst (.bool true)) (ld (n2 (.iAddr 1) (x 2) (x 17)))) (q (q (.hv [(43, x 14)] [] [] (some 44) (.bSl [.int .i64 0] 1 [0]) (c1 (ld (n2
 (.iAddr 1) (x 9) (x 17))))) (q (h 45 (.app 1 [.int .i64 0]) (c2 (x 43) (x 44))) (s [(14, x 45)]))) (q (.hv [(46, x 15)] [] [] (some 47) (.bSl [.int .i64 0] 1
 [0]) (c1 (x 17))) (q (h 48 (.app 1 [.int .i64 0]) (c2 (x 46) (x 47))) (s [(15, x 48)])))) .skip)))) (s [(17, b .add (x 17) (i 1))])))))) (q (.cond (p (p (b
 .neq (x 16) (x 13)) (.cst (.bool true)) (b .neq (x 16) (b .sub (n1 .len (x 12)) (i 1)))) (.cst (.bool true)) (b .gtr (b .add (b .mul (i 2) (x 16)) (x 3)) (ld
 (fa 3 (x 4))))) (q (q (.hv [] [] [] none (.st 2) (c2 (x 5) (.node (.build [.slice none 0 0, .slice none 0 0] []) .nil))) (s [(6, i 17)])) .ret) .skip) (q (q
 (.hv [(49, .node (.build [.slice none 0 0, .slice none 0 0] []) .nil)] [] [] (some 19) (.alloc [.slice none 0 0, .slice none 0 0]) .nil) (.hv [] [] [] none
 (.st 2) (c2 (x 19) (x 49)))) (q (q (h 50 (.app 1 [.int .i64 0]) (c2 (ld (fa 0 (x 19))) (x 1))) (.hv [] [] [] none (.st 1) (c2 (fa 0 (x 19)) (x 50)))) (q (q
 (cl 51 85 (c (n1 (.ld 3 true) (x 7)) (c3 (x 8) (x 14) (ld (fa 4 (x 4)))))) (s [(20, x 51)])) (q (q (s [(21, i 0)]) (.block 4 (.loop (q (.cond (b .lss (x 21)
 (n1 .len (x 15))) .skip (.exit 4)) (q (.block 5 (.cond (b .neq (ld (n2 (.iAddr 1) (x 20) (x 21))) (i 0)) (q (q (.hv [(53, ld (n2 (.iAddr 1) (x 15) (x 21))),
 (52, ld (fa 0 (x 19)))] [] [] (some 54) (.call true) (c (.cst (.func (.func 43) #[] #[])) (c3 (n1 (.ld 3 true) (x 7)) (ld (n2 (.iAddr 1) (x 1) (ld (n2 (.iAddr
 1) (x 15) (x 21))))) (ld (n2 (.iAddr 1) (x 20) (x 21)))))) (.hv [] [] [] none (.st 1) (c2 (n2 (.iAddr 1) (x 52) (x 53)) (x 54)))) (q (.hv [(55, ld (fa 1 (x
 19)))] [] [] (some 56) (.bSl [.int .i64 0] 1 [0]) (c1 (ld (n2 (.iAddr 1) (x 15) (x 21))))) (q (h 57 (.app 1 [.int .i64 0]) (c2 (x 55) (x 56))) (.hv [] [] []
 none (.st 1) (c2 (fa 1 (x 19)) (x 57)))))) .skip)) (s [(21, b .add (x 21) (i 1))])))))) (q (q (cl 58 45 (c2 (n1 (.ld 5 true) (x 4)) (ld (fa 0 (x 19))))) (s
 [(22, x 58)])) (q (q (s [(23, i 0)]) (.block 6 (.loop (q (.cond (b .lss (x 23) (n1 .len (x 22))) .skip (.exit 6)) (q (.block 7 (.cond (b .neq (ld (n2 (.iAddr
 1) (x 22) (x 23))) (i 0)) (q (q (.hv [] [] [] none (.st 2) (c2 (x 5) (.node (.build [.slice none 0 0, .slice none 0 0] []) .nil))) (s [(6, i 17)])) .ret)
 .skip)) (s [(23, b .add (x 23) (i 1))])))))) (q (q (.hv [] [] [] none (.st 2) (c2 (x 5) (n1 (.ld 2 true) (x 19)))) (s [(6, i 0)])) .ret)))))))))))))))))
def cf51 : CF := ⟨4, 59, [(.node (.ld 2 true) (.cons (.var 5) .nil)), (.var 6)], bd51⟩
def tr51 : List Nat := [0, 1, 2, 3, 4, 8, 9, 10, 11, 12, 13, 14, 15, 16, 17, 18, 19, 20, 21, 22, 23, 24, 25, 26, 28, 31, 35, 36, 47, 48, 54, 55, 58, 59, 61, 67, 68, 70, 84, 85, 86, 92, 93, 106, 111, 112, 113, 115, 116, 137, 141, 148, 161, 165, 178, 181, 186, 187, 192]
def bd52 : Stm :=
 q (s [(2, i 0)]) (q (q (cl 5 56 (c1 (x 1))) (s [(3, x 5)])) (q (q (q (cl 6 56 (c1 (x 0))) (s [(4, x 6)])) (.block 0 (.loop (q (.cond (b .geq (x 4) (x 3)) .skip
 (.exit 0)) (q (.block 1 (.cond (b .eql (b .and (b .shr (x 0) (n1 (.cvt .u64) (x 4))) (i 1)) (i 1)) (s [(0, b .xor (x 0) (b .shl (x 1) (n1 (.cvt .u64) (b .sub
 (x 4) (x 3)))))]) .skip)) (s [(4, b .sub (x 4) (i 1))])))))) (q (s [(2, x 0)]) .ret)))
def cf52 : CF := ⟨2, 7, [(.var 2)], bd52⟩
def tr52 : List Nat := [0, 1, 4, 5, 6, 8, 10]
def bd53 : Stm :=
 q (s [(1, .cst (.bool false))]) (q (q (s [(2, i 2)]) (.block 0 (.loop (q (.cond (b .leq (b .mul (x 2) (x 2)) (x 0)) .skip (.exit 0)) (q (.block 1 (.cond (b .eql
 (b .rem (x 0) (x 2)) (i 0)) (q (s [(1, .cst (.bool false))]) .ret) .skip)) (s [(2, b .add (x 2) (i 1))])))))) (q (s [(1, .cst (.bool true))]) .ret))
def cf53 : CF := ⟨1, 3, [(.var 1)], bd53⟩
def tr53 : List Nat := [0, 2, 3]
def bd54 : Stm :=
 q (s [(1, i 0)]) (q (q (cl 2 86 (c1 (n1 (.cvt .u64) (x 0)))) (s [(1, b .sub (x 2) (i 1))])) .ret)
def cf54 : CF := ⟨1, 3, [(.var 1)], bd54⟩
def tr54 : List Nat := [0, 2, 5]
def bd55 : Stm :=
 q (s [(1, .cst (.bool false))]) (q (q (s [(2, i 2)]) (.block 0 (.loop (q (q (cl 3 54 (c1 (x 2))) (q (.hv [(4, b .mul (i 2) (x 3))] [] [] (some 5) (.call false)
 (c2 (.cst (.func (.func 54) #[] #[])) (x 0))) (.cond (b .leq (x 4) (x 5)) .skip (.exit 0)))) (q (.block 1 (q (cl 6 87 (c2 (x 0) (x 2))) (.cond (b .eql (x 6)
 (i 0)) (q (s [(1, .cst (.bool false))]) .ret) .skip))) (s [(2, b .add (x 2) (i 1))])))))) (q (s [(1, .cst (.bool true))]) .ret))
def cf55 : CF := ⟨1, 7, [(.var 1)], bd55⟩
def tr55 : List Nat := [0, 2, 3, 5, 6, 8, 14]
def bd56 : Stm :=
 q (s [(1, i 0)]) (q (s [(2, i (-1))]) (q (.block 0 (.loop (q (.cond (b .gtr (x 0) (i 0)) .skip (.exit 0)) (.block 1 (q (s [(0, b .quo (x 0) (i 2))]) (s [(2, b
 .add (x 2) (i 1))])))))) (q (s [(1, x 2)]) .ret)))
def cf56 : CF := ⟨1, 3, [(.var 1)], bd56⟩
def tr56 : List Nat := [0, 2, 3]
def bd57 : Stm :=
 q (s [(2, .cst (.bool false))]) (q (q (.hv [(4, b .lss (x 0) (i 0))] [] [(b .lss (x 0) (i 0), false)] (some 5) (.call false) (c2 (.cst (.func (.func 56) #[]
 #[])) (x 0))) (.cond (p (x 4) (.cst (.bool true)) (b .neq (x 5) (x 1))) (q (s [(2, .cst (.bool false))]) .ret) .skip)) (q (q (s [(3, i 2)]) (.block 0 (.loop
 (q (q (cl 6 56 (c1 (x 3))) (.cond (b .leq (b .mul (i 2) (x 6)) (x 1)) .skip (.exit 0))) (q (.block 1 (q (cl 7 52 (c2 (x 0) (x 3))) (.cond (b .eql (x 7) (i 0))
 (q (s [(2, .cst (.bool false))]) .ret) .skip))) (s [(3, b .add (x 3) (i 1))])))))) (q (s [(2, .cst (.bool true))]) .ret)))
def cf57 : CF := ⟨2, 8, [(.var 2)], bd57⟩
def tr57 : List Nat := [0, 1, 4, 5, 8, 10, 15, 23]
def bd58 : Stm :=
 q (s [(1, .cst (.bool false))]) (q (q (s [(2, i 2)]) (.block 0 (.loop (q (.cond (b .leq (b .mul (x 2) (x 2)) (x 0)) .skip (.exit 0)) (q (.block 1 (.cond (b .eql
 (b .rem (x 0) (x 2)) (i 0)) (q (s [(1, .cst (.bool false))]) .ret) .skip)) (s [(2, b .add (x 2) (i 1))])))))) (q (s [(1, b .geq (x 0) (i 2))]) .ret))
def cf58 : CF := ⟨1, 3, [(.var 1)], bd58⟩
def tr58 : List Nat := [0, 2, 3]
def bd59 : Stm :=
 q (q (h 1 .box (c1 (x 0))) (s [(3, i 0), (2, i 0)])) (q (q (cl 4 68 (c2 (n1 (.ld 3 true) (x 1)) (.cst (.slice none 0 0)))) (.cond (n1 (.un .not) (x 4)) (q (s
 [(3, i 1), (2, i 0)]) .ret) .skip)) (q (q (cl 5 88 (c1 (n1 (.ld 3 true) (x 1)))) (s [(3, i 0), (2, x 5)])) .ret))
def cf59 : CF := ⟨1, 6, [(.var 2), (.var 3)], bd59⟩
def tr59 : List Nat := [0, 1, 2, 3, 5, 8]
def bd60 : Stm :=
 q (q (h 3 .box (c1 (x 0))) (s [(5, i 0), (4, i 0)])) (q (q (.hv [(6, n1 (.ld 3 true) (x 3))] [] [] (some 7) (.bSl [.int .i64 0] 2 [0, 1]) (c2 (x 1) (x 2))) (q
 (cl 8 68 (c2 (x 6) (x 7))) (.cond (n1 (.un .not) (x 8)) (q (s [(5, i 1), (4, i 0)]) .ret) .skip))) (q (q (cl 9 89 (c3 (n1 (.ld 3 true) (x 3)) (x 1) (x 2))) (s
 [(5, i 0), (4, x 9)])) .ret))
def cf60 : CF := ⟨3, 10, [(.var 4), (.var 5)], bd60⟩
def tr60 : List Nat := [0, 1, 2, 3, 6, 7, 8, 11, 12, 17]
def bd61 : Stm :=
 q (q (h 2 .box (c1 (x 0))) (s [(3, .cst (.bool false))])) (q (q (cl 6 30 (c1 (n1 (.ld 3 true) (x 2)))) (.cond (n1 (.un .not) (x 6)) (q (s [(3, .cst (.bool
 false))]) .ret) .skip)) (q (q (s [(9, i 0), (8, n1 .len (x 1)), (7, x 1)]) (.block 0 (.loop (q (.cond (b .lss (x 9) (x 8)) .skip (.exit 0)) (q (.block 1 (q (s
 [(4, ld (n2 (.iAddr 1) (x 7) (x 9)))]) (q (s [(5, n1 .len (x 4))]) (q (.hv [(10, p (b .gtr (x 5) (i 4097)) (.cst (.bool true)) (p (b .gtr (x 5) (i 0)) (b .eql
 (ld (n2 (.iAddr 1) (x 4) (b .sub (x 5) (i 1)))) (i 0)) (.cst (.bool false))))] [] [(p (b .gtr (x 5) (i 4097)) (.cst (.bool true)) (p (b .gtr (x 5) (i 0)) (b
 .eql (ld (n2 (.iAddr 1) (x 4) (b .sub (x 5) (i 1)))) (i 0)) (.cst (.bool false))), false)] (some 11) (.call false) (c3 (.cst (.func (.func 62) #[] #[])) (n1
 (.ld 3 true) (x 2)) (x 4))) (.cond (p (x 10) (.cst (.bool true)) (n1 (.un .not) (x 11))) (q (s [(3, .cst (.bool false))]) .ret) .skip))))) (s [(9, b .add (x
 9) (i 1))])))))) (q (s [(3, .cst (.bool true))]) .ret)))
def cf61 : CF := ⟨2, 12, [(.var 3)], bd61⟩
def tr61 : List Nat := [0, 1, 2, 4, 6, 7, 9, 11, 12, 13, 33, 36]
def bd62 : Stm :=
 q (q (h 2 .box (c1 (x 0))) (s [(3, .cst (.bool false))])) (q (q (s [(7, i 0), (6, n1 .len (x 1)), (5, x 1)]) (.block 0 (.loop (q (.cond (b .lss (x 7) (x 6))
 .skip (.exit 0)) (q (.block 1 (q (s [(4, ld (n2 (.iAddr 1) (x 5) (x 7)))]) (.cond (p (b .lss (x 4) (i 0)) (.cst (.bool true)) (b .geq (x 4) (ld (fa 1 (x
 2))))) (q (s [(3, .cst (.bool false))]) .ret) .skip))) (s [(7, b .add (x 7) (i 1))])))))) (q (s [(3, .cst (.bool true))]) .ret))
def cf62 : CF := ⟨2, 8, [(.var 3)], bd62⟩
def tr62 : List Nat := [0, 1, 2, 4, 6, 7, 8, 9]
def bd63 : Stm :=
 q (q (h 1 .box (c1 (x 0))) (h 2 (.alloc [.int .i64 0, .int .i64 0, .slice none 0 0, .slice none 0 0]) .nil)) (q (q (cl 7 59 (c1 (n1 (.ld 3 true) (x 1)))) (.sets
 [(3, ix 0 (x 7))] [ix 1 (x 7)])) (q (q (.hv [(11, ld (fa 1 (x 1))), (9, ld (fa 1 (x 1))), (8, ld (fa 0 (x 1)))] [] [] (some 10) (.mkSl [.int .i64 0]) (c2 (b
 .sub (ld (fa 1 (x 1))) (i 1)) (b .sub (ld (fa 1 (x 1))) (i 1)))) (q (h 12 (.mkSl [.int .i64 0]) (c2 (x 11) (x 11))) (q (.hv [(13, .node (.build [.int .i64 0,
 .int .i64 0, .slice none 0 0, .slice none 0 0] [(0, 1), (1, 1), (2, 1), (3, 1)]) (c (x 8) (c3 (x 9) (x 10) (x 12))))] [] [] (some 4) (.alloc [.int .i64 0,
 .int .i64 0, .slice none 0 0, .slice none 0 0]) .nil) (.hv [] [] [] none (.st 4) (c2 (x 4) (x 13)))))) (q (s [(5, i 1)]) (q (q (s [(15, i 0), (14, n1 .len (ld
 (fa 2 (x 4))))]) (.block 0 (.loop (q (.cond (b .lss (x 15) (x 14)) .skip (.exit 0)) (q (.block 1 (q (s [(6, x 15)]) (q (q (.hv [(20, n2 (.iAddr 1) (ld (fa 2
 (x 4))) (x 6)), (19, x 6), (18, x 5), (17, ld (fa 3 (x 4))), (16, fa 3 (x 4))] [] [] none (.st 1) (c2 (n2 (.iAddr 1) (ld (fa 2 (x 4))) (x 6)) (x 5))) (q (.hv
 [] [] [] none (.st 1) (c2 (n2 (.iAddr 1) (x 17) (x 18)) (x 19))) (.dist (x 20) (x 16)))) (q (cl 21 60 (c3 (n1 (.ld 3 true) (x 1)) (x 5) (x 3))) (.sets [(5, ix
 0 (x 21))] [ix 1 (x 21)]))))) (s [(15, b .add (x 15) (i 1))])))))) (q (.hv [] [] [] none (.st 4) (c2 (x 2) (n1 (.ld 4 true) (x 4)))) .ret)))))
def cf63 : CF := ⟨1, 22, [(.node (.ld 4 true) (.cons (.var 2) .nil))], bd63⟩
def tr63 : List Nat := [0, 1, 2, 3, 5, 6, 7, 10, 14, 16, 20, 22, 23, 24, 27, 28, 34, 35, 36, 38, 39, 45]
def bd64 : Stm :=
 q (q (h 4 .box (c1 (x 0))) (s [(5, .cst (.slice none 0 0))])) (q (q (h 9 (.mkSl [.int .i64 0]) (c2 (b .add (n1 .len (x 1)) (i 1)) (b .add (n1 .len (x 1)) (i
 1)))) (s [(6, x 9)])) (q (.hv [] [] [] none (.st 1) (c2 (n2 (.iAddr 1) (x 6) (i 0)) (x 3))) (q (q (s [(12, i 0), (11, n1 .len (x 1)), (10, x 1)]) (.block 0
 (.loop (q (.cond (b .lss (x 12) (x 11)) .skip (.exit 0)) (q (.block 1 (q (s [(8, ld (n2 (.iAddr 1) (x 10) (x 12))), (7, x 12)]) (q (q (.hv [(16, ld (n2
 (.iAddr 1) (x 6) (x 7))), (15, n1 (.ld 4 true) (x 4)), (14, x 7), (13, x 6)] [] [] (some 17) (.call true) (c (.cst (.func (.func 91) #[] #[])) (c3 (n1 (.ld 4
 true) (x 4)) (x 8) (x 2)))) (q (cl 18 90 (c3 (x 15) (x 16) (x 17))) (.hv [] [] [] none (.st 1) (c2 (n2 (.iAddr 1) (x 13) (x 14)) (x 18))))) (.hv [] [] [] none
 (.st 1) (c2 (n2 (.iAddr 1) (x 6) (b .add (x 7) (i 1))) (x 8)))))) (s [(12, b .add (x 12) (i 1))])))))) (q (s [(5, x 6)]) .ret))))
def cf64 : CF := ⟨4, 19, [(.var 5)], bd64⟩
def tr64 : List Nat := [0, 1, 2, 3, 4, 8, 9, 10, 11, 15, 19, 20, 21, 26, 27, 28, 32, 36, 37]
def bd65 : Stm :=
 q (q (h 1 .box (c1 (x 0))) (s [(2, .cst (.slice none 0 0))])) (q (q (cl 7 92 (c1 (n1 (.ld 3 true) (fa 0 (x 1))))) (s [(3, x 7)])) (q (s [(4, .cst (.slice none 0
 0))]) (q (q (cl 8 93 (c3 (n1 (.ld 3 true) (fa 0 (x 1))) (x 3) (ld (fa 4 (x 1))))) (s [(5, x 8)])) (q (q (s [(6, i 0)]) (.block 0 (.loop (q (.cond (b .lss (x
 6) (ld (fa 3 (x 1)))) .skip (.exit 0)) (q (.block 1 (q (q (.hv [(9, x 4)] [] [] (some 10) (.bSl [.int .i64 0] 1 [0]) (c1 (x 5))) (q (h 11 (.app 1 [.int .i64
 0]) (c2 (x 9) (x 10))) (s [(4, x 11)]))) (q (cl 12 29 (c3 (n1 (.ld 3 true) (fa 0 (x 1))) (x 5) (x 3))) (s [(5, x 12)])))) (s [(6, b .add (x 6) (i 1))]))))))
 (q (s [(2, x 4)]) .ret)))))
def cf65 : CF := ⟨1, 13, [(.var 2)], bd65⟩
def tr65 : List Nat := [0, 1, 2, 3, 4, 5, 6, 9, 15, 22, 24, 25, 30]
def bd66 : Stm :=
 q (q (h 4 .box (c1 (x 0))) (s [(5, .cst (.slice none 0 0))])) (q (q (h 9 (.mkSl [.int .i64 0]) (c2 (n2 (.minmax false) (x 3) (n2 (.minmax true) (i 0) (b .sub (b
 .add (n1 .len (x 1)) (n1 .len (x 2))) (i 1)))) (n2 (.minmax false) (x 3) (n2 (.minmax true) (i 0) (b .sub (b .add (n1 .len (x 1)) (n1 .len (x 2))) (i 1))))))
 (s [(6, x 9)])) (q (q (s [(7, i 0)]) (.block 0 (.loop (q (.cond (b .lss (x 7) (n1 .len (x 1))) .skip (.exit 0)) (q (.block 1 (q (s [(8, i 0)]) (.block 2
 (.loop (q (.cond (p (b .lss (x 8) (n1 .len (x 2))) (b .lss (b .add (x 7) (x 8)) (n1 .len (x 6))) (.cst (.bool false))) .skip (.exit 2)) (q (.block 3 (q (.hv
 [(13, ld (n2 (.iAddr 1) (x 6) (b .add (x 7) (x 8)))), (12, n1 (.ld 3 true) (x 4)), (11, b .add (x 7) (x 8)), (10, x 6)] [] [] (some 14) (.call true) (c (.cst
 (.func (.func 29) #[] #[])) (c3 (n1 (.ld 3 true) (x 4)) (ld (n2 (.iAddr 1) (x 1) (x 7))) (ld (n2 (.iAddr 1) (x 2) (x 8)))))) (q (cl 15 28 (c3 (x 12) (x 13) (x
 14))) (.hv [] [] [] none (.st 1) (c2 (n2 (.iAddr 1) (x 10) (x 11)) (x 15)))))) (s [(8, b .add (x 8) (i 1))]))))))) (s [(7, b .add (x 7) (i 1))])))))) (q (s
 [(5, x 6)]) .ret)))
def cf66 : CF := ⟨4, 16, [(.var 5)], bd66⟩
def tr66 : List Nat := [0, 1, 2, 3, 4, 8, 9, 10, 11, 21, 42, 45, 46, 52, 62, 63]
def bd67 : Stm :=
 q (q (h 3 .box (c1 (x 0))) (s [(5, .cst (.slice none 0 0)), (4, .cst (.slice none 0 0))])) (q (q (h 11 (.app 1 [.int .i64 0]) (c2 (.cst (.slice none 0 0)) (x
 1))) (s [(5, x 11)])) (q (s [(6, b .sub (n1 .len (x 2)) (i 1))]) (q (.cond (b .gtr (n1 .len (x 1)) (x 6)) (q (h 12 (.mkSl [.int .i64 0]) (c2 (b .sub (n1 .len
 (x 1)) (x 6)) (b .sub (n1 .len (x 1)) (x 6)))) (s [(4, x 12)])) .skip) (q (q (s [(7, b .sub (n1 .len (x 4)) (i 1))]) (.block 0 (.loop (q (.cond (b .geq (x 7)
 (i 0)) .skip (.exit 0)) (q (.block 1 (q (q (cl 13 94 (c3 (n1 (.ld 4 true) (x 3)) (ld (n2 (.iAddr 1) (x 5) (b .add (x 7) (x 6)))) (ld (n2 (.iAddr 1) (x 2) (x
 6))))) (s [(8, x 13)])) (q (.hv [] [] [] none (.st 1) (c2 (n2 (.iAddr 1) (x 4) (x 7)) (x 8))) (q (s [(16, i 0), (15, n1 .len (x 2)), (14, x 2)]) (.block 2
 (.loop (q (.cond (b .lss (x 16) (x 15)) .skip (.exit 2)) (q (.block 3 (q (s [(10, ld (n2 (.iAddr 1) (x 14) (x 16))), (9, x 16)]) (q (.hv [(20, ld (n2 (.iAddr
 1) (x 5) (b .add (x 7) (x 9)))), (19, n1 (.ld 4 true) (x 3)), (18, b .add (x 7) (x 9)), (17, x 5)] [] [] (some 21) (.call true) (c (.cst (.func (.func 91) #[]
 #[])) (c3 (n1 (.ld 4 true) (x 3)) (x 8) (x 10)))) (q (cl 22 90 (c3 (x 19) (x 20) (x 21))) (.hv [] [] [] none (.st 1) (c2 (n2 (.iAddr 1) (x 17) (x 18)) (x
 22))))))) (s [(16, b .add (x 16) (i 1))]))))))))) (s [(7, b .sub (x 7) (i 1))])))))) (q (q (.hv [(23, x 4)] [] [] (some 24) (.call false) (c2 (.cst (.func
 (.func 40) #[] #[])) (x 5))) (s [(5, x 24), (4, x 23)])) .ret)))))
def cf67 : CF := ⟨3, 25, [(.var 4), (.var 5)], bd67⟩
def tr67 : List Nat := [0, 1, 2, 3, 6, 7, 8, 9, 10, 11, 12, 14, 26, 45, 50, 51, 52, 57, 60, 61, 67, 71, 72, 75, 77]
def bd68 : Stm :=
 q (q (h 2 .box (c1 (x 0))) (s [(3, .cst (.bool false))])) (q (q (cl 5 30 (c1 (n1 (.ld 3 true) (x 2)))) (.cond (n1 (.un .not) (x 5)) (q (s [(3, .cst (.bool
 false))]) .ret) .skip)) (q (q (s [(8, i 0), (7, n1 .len (x 1)), (6, x 1)]) (.block 0 (.loop (q (.cond (b .lss (x 8) (x 7)) .skip (.exit 0)) (q (.block 1 (q (s
 [(4, ld (n2 (.iAddr 1) (x 6) (x 8)))]) (.cond (p (b .lss (x 4) (i 0)) (.cst (.bool true)) (b .geq (x 4) (ld (fa 1 (x 2))))) (q (s [(3, .cst (.bool false))])
 .ret) .skip))) (s [(8, b .add (x 8) (i 1))])))))) (q (s [(3, .cst (.bool true))]) .ret)))
def cf68 : CF := ⟨2, 9, [(.var 3)], bd68⟩
def tr68 : List Nat := [0, 1, 2, 4, 6, 8, 10, 11, 12]
def bd69 : Stm :=
 q (q (h 3 .box (c1 (x 0))) (s [(4, i 0)])) (q (.cond (b .eql (ld (fa 0 (x 3))) (i 2)) (q (s [(4, b .xor (x 1) (x 2))]) .ret) .skip) (q (s [(4, b .rem (b .add (x
 1) (x 2)) (ld (fa 1 (x 3))))]) .ret))
def cf69 : CF := ⟨3, 5, [(.var 4)], bd69⟩
def tr69 : List Nat := [0, 1, 2, 3, 6]
def bd70 : Stm :=
 q (q (h 3 .box (c1 (x 0))) (s [(4, i 0)])) (q (.cond (p (b .eql (x 1) (i 0)) (.cst (.bool true)) (b .eql (x 2) (i 0))) (q (s [(4, i 0)]) .ret) .skip) (q (s [(4,
 ld (n2 (.iAddr 1) (ld (fa 2 (x 3))) (b .rem (b .add (ld (n2 (.iAddr 1) (ld (fa 3 (x 3))) (x 1))) (ld (n2 (.iAddr 1) (ld (fa 3 (x 3))) (x 2)))) (b .sub (ld (fa
 1 (x 3))) (i 1)))))]) .ret))
def cf70 : CF := ⟨3, 5, [(.var 4)], bd70⟩
def tr70 : List Nat := [0, 1, 2, 3, 6]
def bd71 : Stm :=
 q (q (h 3 .box (c1 (x 0))) (s [(4, i 0)])) (q (s [(5, i 0)]) (q (q (s [(6, i 0)]) (.block 0 (.loop (q (.cond (b .lss (x 6) (n1 .len (x 1))) .skip (.exit 0)) (q
 (.block 1 (q (.hv [(9, ld (n2 (.iAddr 1) (x 1) (x 6))), (7, n1 (.ld 3 true) (x 3))] [] [] (some 8) (.call true) (c (.cst (.func (.func 29) #[] #[])) (c3 (n1
 (.ld 3 true) (x 3)) (x 5) (x 2)))) (q (cl 10 28 (c3 (x 7) (x 8) (x 9))) (s [(5, x 10)])))) (s [(6, b .add (x 6) (i 1))])))))) (q (s [(4, x 5)]) .ret)))
def cf71 : CF := ⟨3, 11, [(.var 4)], bd71⟩
def tr71 : List Nat := [0, 1, 2, 3, 6, 7, 8, 15, 19, 23, 24]
def bd72 : Stm :=
 q (q (h 5 .box (c1 (x 0))) (s [(6, .cst (.slice none 0 0))])) (q (q (h 10 (.mkSl [.int .i64 0]) (c2 (n2 (.minmax true) (n1 .len (x 1)) (b .add (n1 .len (x 2))
 (x 3))) (n2 (.minmax true) (n1 .len (x 1)) (b .add (n1 .len (x 2)) (x 3))))) (s [(7, x 10)])) (q (.hv [] [] [] none (.cpy 1) (c2 (x 7) (x 1))) (q (q (s [(13,
 i 0), (12, n1 .len (x 2)), (11, x 2)]) (.block 0 (.loop (q (.cond (b .lss (x 13) (x 12)) .skip (.exit 0)) (q (.block 1 (q (s [(9, ld (n2 (.iAddr 1) (x 11) (x
 13))), (8, x 13)]) (q (.hv [(17, ld (n2 (.iAddr 1) (x 7) (b .add (x 8) (x 3)))), (16, n1 (.ld 4 true) (x 5)), (15, b .add (x 8) (x 3)), (14, x 7)] [] [] (some
 18) (.call true) (c (.cst (.func (.func 70) #[] #[])) (c3 (n1 (.ld 4 true) (x 5)) (x 4) (x 9)))) (q (cl 19 95 (c3 (x 16) (x 17) (x 18))) (.hv [] [] [] none
 (.st 1) (c2 (n2 (.iAddr 1) (x 14) (x 15)) (x 19))))))) (s [(13, b .add (x 13) (i 1))])))))) (q (s [(6, x 7)]) .ret))))
def cf72 : CF := ⟨5, 20, [(.var 6)], bd72⟩
def tr72 : List Nat := [0, 1, 2, 3, 4, 5, 10, 11, 12, 13, 21, 25, 26, 27, 32, 35, 36, 42, 46, 47]
def bd73 : Stm :=
 q (q (h 3 .box (c1 (x 0))) (s [(4, i 0)])) (q (.cond (b .eql (x 1) (i 0)) (q (s [(4, i 0)]) .ret) .skip) (q (s [(4, ld (n2 (.iAddr 1) (ld (fa 2 (x 3))) (b .rem
 (b .sub (b .add (b .sub (ld (n2 (.iAddr 1) (ld (fa 3 (x 3))) (x 1))) (ld (n2 (.iAddr 1) (ld (fa 3 (x 3))) (x 2)))) (ld (fa 1 (x 3)))) (i 1)) (b .sub (ld (fa 1
 (x 3))) (i 1)))))]) .ret))
def cf73 : CF := ⟨3, 5, [(.var 4)], bd73⟩
def tr73 : List Nat := [0, 1, 2, 3, 6]
def bd74 : Stm :=
 q (s [(2, i 0)]) (q (.cond (b .lss (x 1) (n1 .len (x 0))) (q (s [(2, ld (n2 (.iAddr 1) (x 0) (x 1)))]) .ret) .skip) (q (s [(2, i 0)]) .ret))
def cf74 : CF := ⟨2, 3, [(.var 2)], bd74⟩
def tr74 : List Nat := [0, 1, 4]
def bd75 : Stm :=
 q (q (h 5 .box (c1 (x 0))) (s [(6, .cst (.slice none 0 0))])) (q (q (h 10 (.mkSl [.int .i64 0]) (c2 (n2 (.minmax true) (n1 .len (x 1)) (b .add (n1 .len (x 2))
 (x 4))) (n2 (.minmax true) (n1 .len (x 1)) (b .add (n1 .len (x 2)) (x 4))))) (s [(7, x 10)])) (q (q (s [(8, i 0)]) (.block 0 (.loop (q (.cond (b .lss (x 8)
 (n1 .len (x 7))) .skip (.exit 0)) (q (.block 1 (q (s [(9, i 0)]) (q (.cond (b .geq (x 8) (x 4)) (q (.hv [(12, x 3), (11, n1 (.ld 3 true) (x 5))] [] [] (some
 13) (.call true) (c3 (.cst (.func (.func 74) #[] #[])) (x 2) (b .sub (x 8) (x 4)))) (q (cl 14 29 (c3 (x 11) (x 12) (x 13))) (s [(9, x 14)]))) .skip) (q (.hv
 [(19, x 9), (17, n1 (.ld 3 true) (x 5)), (16, x 8), (15, x 7)] [] [] (some 18) (.call true) (c3 (.cst (.func (.func 74) #[] #[])) (x 1) (x 8))) (q (cl 20 43
 (c3 (x 17) (x 18) (x 19))) (.hv [] [] [] none (.st 1) (c2 (n2 (.iAddr 1) (x 15) (x 16)) (x 20)))))))) (s [(8, b .add (x 8) (i 1))])))))) (q (s [(6, x 7)])
 .ret)))
def cf75 : CF := ⟨5, 21, [(.var 6)], bd75⟩
def tr75 : List Nat := [0, 1, 2, 3, 4, 5, 10, 11, 12, 13, 21, 31, 32, 37, 38, 39, 40, 41, 44, 45, 46]
def bd76 : Stm :=
 q (q (h 2 .box (c1 (x 0))) (s [(3, i 0)])) (q (q (cl 4 93 (c3 (n1 (.ld 3 true) (x 2)) (x 1) (b .sub (ld (fa 1 (x 2))) (i 2)))) (s [(3, x 4)])) .ret)
def cf76 : CF := ⟨2, 5, [(.var 3)], bd76⟩
def tr76 : List Nat := [0, 1, 2, 4, 10]
def bd77 : Stm :=
 q (s [(1, .cst (.bool false))]) (q (q (.hv [(2, x 0)] [] [] (some 3) (.call false) (c (.cst (.func (.func 44) #[] #[])) (c3 (n1 (.ld 4 true) (fa 0 (n1 .nilChk
 (x 0)))) (n1 (.ld 5 true) (fa 4 (n1 .nilChk (x 0)))) (ld (fa 9 (n1 .nilChk (x 0))))))) (.hv [] [] [] none (.st 1) (c2 (fa 12 (n1 .nilChk (x 2))) (x 3)))) (q
 (s [(1, b .leq (ld (fa 11 (n1 .nilChk (x 0)))) (ld (fa 3 (fa 4 (n1 .nilChk (x 0))))))]) .ret))
def cf77 : CF := ⟨1, 4, [(.var 1)], bd77⟩
def tr77 : List Nat := [0, 2, 3, 16]
def bd78 : Stm :=
 q (s [(1, .cst (.bool false))]) (q (q (.hv [(4, x 0)] [] [] (some 5) (.bSl [.int .i64 0] 1 [0]) (c1 (i 1))) (.hv [] [] [] none (.st 1) (c2 (fa 13 (n1 .nilChk (x
 4))) (x 5)))) (q (q (s [(8, i 0), (7, n1 .len (ld (fa 10 (n1 .nilChk (x 0))))), (6, ld (fa 10 (n1 .nilChk (x 0))))]) (.block 0 (.loop (q (.cond (b .lss (x 8)
 (x 7)) .skip (.exit 0)) (q (.block 1 (q (s [(3, ld (n2 (.iAddr 1) (x 6) (x 8))), (2, x 8)]) (.cond (x 3) (q (.hv [(13, n1 (.ld 4 true) (fa 0 (n1 .nilChk (x
 0)))), (12, ld (fa 13 (n1 .nilChk (x 0)))), (11, ld (fa 13 (n1 .nilChk (x 0)))), (10, n1 (.ld 4 true) (fa 0 (n1 .nilChk (x 0)))), (9, x 0)] [] [] (some 14)
 (.call true) (c3 (.cst (.func (.func 96) #[] #[])) (x 0) (x 2))) (q (h 15 (.call true) (c3 (.cst (.func (.func 35) #[] #[])) (x 13) (x 14))) (q (cl 16 72 (c
 (x 10) (c (x 11) (c3 (x 12) (i 1) (x 15))))) (.hv [] [] [] none (.st 1) (c2 (fa 13 (n1 .nilChk (x 9))) (x 16)))))) .skip))) (s [(8, b .add (x 8) (i 1))]))))))
 (q (s [(1, .cst (.bool true))]) .ret)))
def cf78 : CF := ⟨1, 17, [(.var 1)], bd78⟩
def tr78 : List Nat := [0, 2, 3, 4, 5, 6, 12, 13, 14, 20, 24, 28, 32, 36, 39, 40, 41]
def bd79 : Stm :=
 q (s [(1, .cst (.bool false))]) (q (q (cl 3 97 (c (n1 (.ld 4 true) (fa 0 (n1 .nilChk (x 0)))) (c3 (ld (fa 12 (n1 .nilChk (x 0)))) (ld (fa 13 (n1 .nilChk (x
 0)))) (ld (fa 3 (fa 4 (n1 .nilChk (x 0)))))))) (s [(2, x 3)])) (q (q (.hv [(4, x 0)] [] [] (some 5) (.call false) (c3 (.cst (.func (.func 47) #[] #[])) (n1
 (.ld 4 true) (fa 0 (n1 .nilChk (x 0)))) (n2 (.sl 1 true false false) (x 2) (ld (fa 11 (n1 .nilChk (x 0))))))) (.hv [] [] [] none (.st 1) (c2 (fa 14 (n1
 .nilChk (x 4))) (x 5)))) (q (s [(1, b .leq (b .add (b .mul (i 2) (b .sub (n1 .len (ld (fa 14 (n1 .nilChk (x 0))))) (i 1))) (ld (fa 11 (n1 .nilChk (x 0)))))
 (ld (fa 3 (fa 4 (n1 .nilChk (x 0))))))]) .ret)))
def cf79 : CF := ⟨1, 6, [(.var 1)], bd79⟩
def tr79 : List Nat := [0, 2, 3, 21, 22, 33]
def bd80 : Stm :=
 q (s [(1, .cst (.bool false))]) (q (s [(2, i 0)]) (q (q (s [(8, i 0), (7, n1 .len (ld (fa 10 (n1 .nilChk (x 0))))), (6, ld (fa 10 (n1 .nilChk (x 0))))]) (.block
 0 (.loop (q (.cond (b .lss (x 8) (x 7)) .skip (.exit 0)) (q (.block 1 (q (s [(4, ld (n2 (.iAddr 1) (x 6) (x 8))), (3, x 8)]) (q (q (.hv [(10, b .sub (ld (fa 1
 (fa 0 (n1 .nilChk (x 0))))) (i 1)), (9, n1 (.ld 4 true) (fa 0 (n1 .nilChk (x 0))))] [] [] (some 11) (.call true) (c3 (.cst (.func (.func 96) #[] #[])) (x 0)
 (x 3))) (q (cl 12 35 (c2 (x 9) (b .sub (x 10) (x 11)))) (s [(5, x 12)]))) (q (.hv [(13, n1 (.un .not) (x 4))] [] [(n1 (.un .not) (x 4), true)] (some 14)
 (.call false) (c (.cst (.func (.func 98) #[] #[])) (c3 (n1 (.ld 4 true) (fa 0 (n1 .nilChk (x 0)))) (ld (fa 14 (n1 .nilChk (x 0)))) (x 5)))) (.cond (p (x 13)
 (b .eql (x 14) (i 0)) (.cst (.bool false))) (q (s [(2, b .add (x 2) (i 1))]) (q (.hv [(16, ld (fa 15 (n1 .nilChk (x 0)))), (15, x 0)] [] [] (some 17) (.bSl
 [.int .i64 0] 1 [0]) (c1 (x 3))) (q (h 18 (.app 1 [.int .i64 0]) (c2 (x 16) (x 17))) (.hv [] [] [] none (.st 1) (c2 (fa 15 (n1 .nilChk (x 15))) (x 18))))))
 (.cond (x 4) (q (.hv [(20, ld (fa 15 (n1 .nilChk (x 0)))), (19, x 0)] [] [] (some 21) (.bSl [.int .i64 0] 1 [0]) (c1 (x 3))) (q (h 22 (.app 1 [.int .i64 0])
 (c2 (x 20) (x 21))) (.hv [] [] [] none (.st 1) (c2 (fa 15 (n1 .nilChk (x 19))) (x 22))))) .skip)))))) (s [(8, b .add (x 8) (i 1))])))))) (q (s [(1, b .eql (x
 2) (b .sub (n1 .len (ld (fa 14 (n1 .nilChk (x 0))))) (i 1)))]) .ret)))
def cf80 : CF := ⟨1, 23, [(.var 1)], bd80⟩
def tr80 : List Nat := [0, 2, 3, 4, 5, 6, 10, 11, 12, 20, 26, 29, 31, 34, 44, 49, 53, 55, 56, 60, 64, 66, 67]
def bd81 : Stm :=
 q (s [(1, .cst (.bool false))]) (q (q (cl 9 97 (c (n1 (.ld 4 true) (fa 0 (n1 .nilChk (x 0)))) (c3 (ld (fa 13 (n1 .nilChk (x 0)))) (ld (fa 14 (n1 .nilChk (x
 0)))) (b .sub (b .add (n1 .len (ld (fa 13 (n1 .nilChk (x 0))))) (n1 .len (ld (fa 14 (n1 .nilChk (x 0)))))) (i 1))))) (s [(2, x 9)])) (q (q (cl 10 97 (c (n1
 (.ld 4 true) (fa 0 (n1 .nilChk (x 0)))) (c3 (ld (fa 12 (n1 .nilChk (x 0)))) (x 2) (ld (fa 3 (fa 4 (n1 .nilChk (x 0)))))))) (s [(3, x 10)])) (q (q (cl 11 99
 (c2 (n1 (.ld 4 true) (fa 0 (n1 .nilChk (x 0)))) (x 2))) (s [(4, x 11)])) (q (q (s [(14, i 0), (13, n1 .len (ld (fa 15 (n1 .nilChk (x 0))))), (12, ld (fa 15
 (n1 .nilChk (x 0))))]) (.block 0 (.loop (q (.cond (b .lss (x 14) (x 13)) .skip (.exit 0)) (q (.block 1 (q (s [(5, ld (n2 (.iAddr 1) (x 12) (x 14)))]) (q (q
 (.hv [(16, b .sub (ld (fa 1 (fa 0 (n1 .nilChk (x 0))))) (i 1)), (15, n1 (.ld 4 true) (fa 0 (n1 .nilChk (x 0))))] [] [] (some 17) (.call true) (c3 (.cst (.func
 (.func 96) #[] #[])) (x 0) (x 5))) (q (cl 18 35 (c2 (x 15) (b .sub (x 16) (x 17)))) (s [(6, x 18)]))) (q (q (.hv [(21, b .sub (b .add (ld (fa 4 (fa 4 (n1
 .nilChk (x 0))))) (ld (fa 1 (fa 0 (n1 .nilChk (x 0)))))) (i 2)), (19, n1 (.ld 4 true) (fa 0 (n1 .nilChk (x 0))))] [] [] (some 20) (.call true) (c3 (.cst
 (.func (.func 96) #[] #[])) (x 0) (x 5))) (q (cl 22 35 (c2 (x 19) (b .mul (x 20) (x 21)))) (s [(7, x 22)]))) (q (q (.hv [(24, x 7), (23, n1 (.ld 4 true) (fa 0
 (n1 .nilChk (x 0))))] [] [] (some 25) (.call true) (c (.cst (.func (.func 98) #[] #[])) (c3 (n1 (.ld 4 true) (fa 0 (n1 .nilChk (x 0)))) (x 4) (x 6)))) (q (cl
 26 70 (c3 (x 23) (x 24) (x 25))) (s [(8, x 26)]))) (q (.cond (b .eql (x 8) (i 0)) (q (s [(1, .cst (.bool false))]) .ret) .skip) (q (.hv [(33, x 8), (31, n1
 (.ld 4 true) (fa 0 (n1 .nilChk (x 0)))), (30, ld (n2 (.iAddr 1) (ld (fa 9 (n1 .nilChk (x 0)))) (x 5))), (29, n1 (.ld 4 true) (fa 0 (n1 .nilChk (x 0)))), (28,
 x 5), (27, ld (fa 9 (n1 .nilChk (x 0))))] [] [] (some 32) (.call true) (c (.cst (.func (.func 98) #[] #[])) (c3 (n1 (.ld 4 true) (fa 0 (n1 .nilChk (x 0)))) (x
 3) (x 6)))) (q (h 34 (.call true) (c (.cst (.func (.func 73) #[] #[])) (c3 (x 31) (x 32) (x 33)))) (q (h 35 (.call true) (c (.cst (.func (.func 69) #[] #[]))
 (c3 (x 29) (x 30) (x 34)))) (.hv [] [] [] none (.st 1) (c2 (n2 (.iAddr 1) (x 27) (x 28)) (x 35)))))))))))) (s [(14, b .add (x 14) (i 1))])))))) (q (s [(1,
 .cst (.bool true))]) .ret)))))
def cf81 : CF := ⟨1, 36, [(.var 1)], bd81⟩
def tr81 : List Nat := [0, 2, 3, 4, 5, 7, 8, 9, 10, 35, 50, 56, 60, 61, 62, 69, 75, 78, 80, 84, 87, 99, 101, 105, 106, 113, 114, 120, 121, 125, 132, 136, 143, 144, 145, 146]
def bd82 : Stm :=
 q (s [(1, .cst (.bool false))]) (q (q (q (.hv [(5, i 0)] [] [] (some 3) (.call false) (c (.cst (.func (.func 44) #[] #[])) (c3 (n1 (.ld 4 true) (fa 0 (n1
 .nilChk (x 0)))) (n1 (.ld 5 true) (fa 4 (n1 .nilChk (x 0)))) (ld (fa 9 (n1 .nilChk (x 0))))))) (s [(4, n1 .len (x 3))])) (.block 0 (.loop (q (.cond (b .lss (x
 5) (x 4)) .skip (.exit 0)) (q (.block 1 (q (s [(2, ld (n2 (.iAddr 1) (x 3) (x 5)))]) (.cond (b .neq (x 2) (i 0)) (q (s [(1, .cst (.bool false))]) .ret)
 .skip))) (s [(5, b .add (x 5) (i 1))])))))) (q (s [(1, .cst (.bool true))]) .ret))
def cf82 : CF := ⟨1, 6, [(.var 1)], bd82⟩
def tr82 : List Nat := [0, 2, 4, 17, 18, 19]
def bd83 : Stm :=
 q (q (h 2 .box (c1 (x 0))) (s [(3, .cst (.slice none 0 0))])) (q (q (cl 8 92 (c1 (n1 (.ld 3 true) (x 2)))) (s [(4, x 8)])) (q (q (h 9 (.mkSl [.int .i64 0]) (c2
 (x 1) (x 1))) (s [(5, x 9)])) (q (s [(6, i 1)]) (q (q (s [(7, b .sub (x 1) (i 1))]) (.block 0 (.loop (q (.cond (b .geq (x 7) (i 0)) .skip (.exit 0)) (q
 (.block 1 (q (.hv [] [] [] none (.st 1) (c2 (n2 (.iAddr 1) (x 5) (x 7)) (x 6))) (q (cl 10 29 (c3 (n1 (.ld 3 true) (x 2)) (x 6) (x 4))) (s [(6, x 10)])))) (s
 [(7, b .sub (x 7) (i 1))])))))) (q (s [(3, x 5)]) .ret)))))
def cf83 : CF := ⟨2, 11, [(.var 3)], bd83⟩
def tr83 : List Nat := [0, 1, 2, 4, 5, 6, 7, 8, 10, 12, 26]
def bd84 : Stm :=
 q (q (h 3 .box (c1 (x 0))) (s [(4, i 0)])) (q (s [(5, i 0)]) (q (q (s [(6, b .sub (n1 .len (x 1)) (i 1))]) (.block 0 (.loop (q (.cond (b .geq (x 6) (i 0)) .skip
 (.exit 0)) (q (.block 1 (q (.hv [(9, ld (n2 (.iAddr 1) (x 1) (x 6))), (7, n1 (.ld 3 true) (x 3))] [] [] (some 8) (.call true) (c (.cst (.func (.func 29) #[]
 #[])) (c3 (n1 (.ld 3 true) (x 3)) (x 5) (x 2)))) (q (cl 10 28 (c3 (x 7) (x 8) (x 9))) (s [(5, x 10)])))) (s [(6, b .sub (x 6) (i 1))])))))) (q (s [(4, x 5)])
 .ret)))
def cf84 : CF := ⟨3, 11, [(.var 4)], bd84⟩
def tr84 : List Nat := [0, 1, 2, 3, 6, 7, 8, 16, 20, 24, 25]
def bd85 : Stm :=
 q (q (h 4 .box (c1 (x 0))) (s [(5, .cst (.slice none 0 0))])) (q (q (h 14 (.bSl [.int .i64 0] 1 [0]) (c1 (i 1))) (s [(6, x 14)])) (q (q (s [(7, i 0)]) (.block 0
 (.loop (q (.cond (b .lss (x 7) (n1 .len (x 2))) .skip (.exit 0)) (q (.block 1 (q (.hv [(19, b .add (n1 .len (x 6)) (i 1)), (16, x 6), (15, n1 (.ld 3 true) (x
 4))] [] [] (some 17) (.call true) (c (.cst (.func (.func 43) #[] #[])) (c3 (n1 (.ld 3 true) (x 4)) (i 0) (ld (n2 (.iAddr 1) (x 2) (x 7)))))) (q (h 18 (.bSl
 [.int .i64 0] 2 [0, 1]) (c2 (i 1) (x 17))) (q (cl 20 66 (c (x 15) (c3 (x 16) (x 18) (x 19)))) (s [(6, x 20)]))))) (s [(7, b .add (x 7) (i 1))])))))) (q (q (cl
 21 66 (c (n1 (.ld 3 true) (x 4)) (c3 (x 1) (x 6) (n1 .len (x 1))))) (s [(8, x 21)])) (q (s [(9, .cst (.slice none 0 0))]) (q (q (s [(10, i 0)]) (.block 2
 (.loop (q (.cond (b .lss (x 10) (n1 .len (x 2))) .skip (.exit 2)) (q (.block 3 (q (q (cl 22 76 (c2 (n1 (.ld 3 true) (x 4)) (ld (n2 (.iAddr 1) (x 2) (x 10)))))
 (s [(11, x 22)])) (q (q (cl 23 93 (c3 (n1 (.ld 3 true) (x 4)) (ld (n2 (.iAddr 1) (x 2) (x 10))) (x 3))) (s [(12, x 23)])) (q (q (s [(13, i 0)]) (.block 4
 (.loop (q (.cond (b .lss (x 13) (n1 .len (x 2))) .skip (.exit 4)) (q (.block 5 (.cond (b .neq (x 13) (x 10)) (q (.hv [(26, n1 (.ld 3 true) (x 4)), (25, x 12),
 (24, n1 (.ld 3 true) (x 4))] [] [] (some 27) (.call true) (c (.cst (.func (.func 29) #[] #[])) (c3 (n1 (.ld 3 true) (x 4)) (ld (n2 (.iAddr 1) (x 2) (x 13)))
 (x 11)))) (q (h 28 (.call true) (c (.cst (.func (.func 43) #[] #[])) (c3 (x 26) (i 1) (x 27)))) (q (cl 29 29 (c3 (x 24) (x 25) (x 28))) (s [(12, x 29)]))))
 .skip)) (s [(13, b .add (x 13) (i 1))])))))) (q (.hv [(34, x 12), (33, n1 (.ld 3 true) (x 4)), (31, n1 (.ld 3 true) (x 4)), (30, x 9)] [] [] (some 32) (.call
 true) (c (.cst (.func (.func 84) #[] #[])) (c3 (n1 (.ld 3 true) (x 4)) (x 8) (x 11)))) (q (h 35 (.call true) (c3 (.cst (.func (.func 76) #[] #[])) (x 33) (x
 34))) (q (cl 36 29 (c3 (x 31) (x 32) (x 35))) (q (h 37 (.bSl [.int .i64 0] 1 [0]) (c1 (x 36))) (q (h 38 (.app 1 [.int .i64 0]) (c2 (x 30) (x 37))) (s [(9, x
 38)])))))))))) (s [(10, b .add (x 10) (i 1))])))))) (q (s [(5, x 9)]) .ret))))))
def cf85 : CF := ⟨4, 39, [(.var 5)], bd85⟩
def tr85 : List Nat := [0, 1, 2, 3, 4, 8, 9, 10, 11, 12, 13, 14, 15, 16, 17, 24, 25, 31, 32, 35, 36, 42, 54, 61, 71, 72, 73, 80, 81, 82, 83, 84, 88, 89, 90, 91, 92, 93, 94]
def bd86 : Stm :=
 q (q (s [(1, i 0)]) (.cond (.cst (.bool false)) (q (q (cl 2 100 (c1 (n1 (.cvt .u32) (x 0)))) (s [(1, x 2)])) .ret) .skip)) (q (q (cl 3 101 (c1 (x 0))) (s [(1, x
 3)])) .ret)
def cf86 : CF := ⟨1, 4, [(.var 1)], bd86⟩
def tr86 : List Nat := [0, 2, 5, 7]
def bd87 : Stm :=
 q (s [(2, i 0)]) (q (.block 0 (.loop (q (q (cl 3 54 (c1 (x 0))) (q (cl 4 54 (c1 (x 1))) (.cond (b .geq (x 3) (x 4)) .skip (.exit 0)))) (.block 1 (q (.hv [(6, x
 1), (5, x 0)] [] [] (some 7) (.call false) (c2 (.cst (.func (.func 54) #[] #[])) (x 0))) (q (cl 8 54 (c1 (x 1))) (s [(0, b .xor (x 5) (b .shl (x 6) (b .sub (x
 7) (x 8))))]))))))) (q (s [(2, x 0)]) .ret))
def cf87 : CF := ⟨2, 9, [(.var 2)], bd87⟩
def tr87 : List Nat := [0, 1, 4, 6, 8, 10, 11, 13, 15]
def bd88 : Stm :=
 q (q (h 1 .box (c1 (x 0))) (s [(2, i 0)])) (q (s [(3, i 1)]) (q (.block 0 (.loop (q (q (.hv [(5, b .sub (ld (fa 1 (x 1))) (i 1))] [] [] (some 4) (.call true)
 (c3 (.cst (.func (.func 102) #[] #[])) (n1 (.ld 3 true) (x 1)) (x 3))) (.cond (b .neq (x 4) (x 5)) .skip (.exit 0))) (.block 1 (s [(3, b .add (x 3) (i
 1))]))))) (q (s [(2, x 3)]) .ret)))
def cf88 : CF := ⟨1, 6, [(.var 2)], bd88⟩
def tr88 : List Nat := [0, 1, 2, 3, 6, 9]
def bd89 : Stm :=
 q (q (h 3 .box (c1 (x 0))) (s [(4, i 0)])) (q (.cond (b .eql (ld (fa 2 (x 3))) (i 0)) (q (s [(4, b .rem (b .mul (x 1) (x 2)) (ld (fa 1 (x 3))))]) .ret) .skip)
 (q (s [(5, i 0)]) (q (.block 0 (.loop (q (.cond (b .gtr (x 2) (i 0)) .skip (.exit 0)) (q (.block 1 (q (.cond (b .eql (b .and (x 2) (i 1)) (i 1)) (s [(5, b
 .xor (x 5) (x 1))]) .skip) (q (s [(1, b .shl (x 1) (.cst (.int .u64 1)))]) (.cond (b .geq (x 1) (ld (fa 1 (x 3)))) (s [(1, b .xor (x 1) (ld (fa 2 (x 3))))])
 .skip)))) (s [(2, b .shr (x 2) (.cst (.int .u64 1)))]))))) (q (s [(4, x 5)]) .ret))))
def cf89 : CF := ⟨3, 6, [(.var 4)], bd89⟩
def tr89 : List Nat := [0, 1, 2, 3, 6, 7]
def bd90 : Stm :=
 q (q (h 3 .box (c1 (x 0))) (s [(4, i 0)])) (q (.cond (b .eql (ld (fa 0 (x 3))) (i 2)) (q (s [(4, b .xor (x 1) (x 2))]) .ret) .skip) (q (s [(4, b .rem (b .add (b
 .sub (x 1) (x 2)) (ld (fa 1 (x 3)))) (ld (fa 1 (x 3))))]) .ret))
def cf90 : CF := ⟨3, 5, [(.var 4)], bd90⟩
def tr90 : List Nat := [0, 1, 2, 3, 6]
def bd91 : Stm :=
 q (q (h 3 .box (c1 (x 0))) (s [(4, i 0)])) (q (.cond (p (b .eql (x 1) (i 0)) (.cst (.bool true)) (b .eql (x 2) (i 0))) (q (s [(4, i 0)]) .ret) .skip) (q (s [(4,
 ld (n2 (.iAddr 1) (ld (fa 2 (x 3))) (b .rem (b .add (ld (n2 (.iAddr 1) (ld (fa 3 (x 3))) (x 1))) (ld (n2 (.iAddr 1) (ld (fa 3 (x 3))) (x 2)))) (b .sub (ld (fa
 1 (x 3))) (i 1)))))]) .ret))
def cf91 : CF := ⟨3, 5, [(.var 4)], bd91⟩
def tr91 : List Nat := [0, 1, 2, 3, 6]
def bd92 : Stm :=
 q (q (h 1 .box (c1 (x 0))) (s [(2, i 0)])) (q (q (s [(3, i 1)]) (.block 0 (.loop (q (.cond (b .lss (x 3) (ld (fa 1 (x 1)))) .skip (.exit 0)) (q (.block 1 (q
 (.hv [(5, b .sub (ld (fa 1 (x 1))) (i 1))] [] [] (some 4) (.call true) (c3 (.cst (.func (.func 103) #[] #[])) (n1 (.ld 3 true) (x 1)) (x 3))) (.cond (b .eql
 (x 4) (x 5)) (q (s [(2, x 3)]) .ret) .skip))) (s [(3, b .add (x 3) (i 1))])))))) (q (s [(2, i 0)]) .ret))
def cf92 : CF := ⟨1, 6, [(.var 2)], bd92⟩
def tr92 : List Nat := [0, 1, 2, 3, 12, 15]
def bd93 : Stm :=
 q (q (h 3 .box (c1 (x 0))) (s [(4, i 0)])) (q (s [(5, i 1)]) (q (.block 0 (.loop (q (.cond (b .gtr (x 2) (i 0)) .skip (.exit 0)) (.block 1 (q (.cond (b .eql (b
 .rem (x 2) (i 2)) (i 1)) (q (cl 6 29 (c3 (n1 (.ld 3 true) (x 3)) (x 5) (x 1))) (s [(5, x 6)])) .skip) (q (q (cl 7 29 (c3 (n1 (.ld 3 true) (x 3)) (x 1) (x 1)))
 (s [(1, x 7)])) (s [(2, b .quo (x 2) (i 2))]))))))) (q (s [(4, x 5)]) .ret)))
def cf93 : CF := ⟨3, 8, [(.var 4)], bd93⟩
def tr93 : List Nat := [0, 1, 2, 3, 6, 7, 16, 20]
def bd94 : Stm :=
 q (q (h 3 .box (c1 (x 0))) (s [(4, i 0)])) (q (.cond (b .eql (x 1) (i 0)) (q (s [(4, i 0)]) .ret) .skip) (q (s [(4, ld (n2 (.iAddr 1) (ld (fa 2 (x 3))) (b .rem
 (b .sub (b .add (b .sub (ld (n2 (.iAddr 1) (ld (fa 3 (x 3))) (x 1))) (ld (n2 (.iAddr 1) (ld (fa 3 (x 3))) (x 2)))) (ld (fa 1 (x 3)))) (i 1)) (b .sub (ld (fa 1
 (x 3))) (i 1)))))]) .ret))
def cf94 : CF := ⟨3, 5, [(.var 4)], bd94⟩
def tr94 : List Nat := [0, 1, 2, 3, 6]
def bd95 : Stm :=
 q (q (h 3 .box (c1 (x 0))) (s [(4, i 0)])) (q (.cond (b .eql (ld (fa 0 (x 3))) (i 2)) (q (s [(4, b .xor (x 1) (x 2))]) .ret) .skip) (q (s [(4, b .rem (b .add (b
 .sub (x 1) (x 2)) (ld (fa 1 (x 3)))) (ld (fa 1 (x 3))))]) .ret))
def cf95 : CF := ⟨3, 5, [(.var 4)], bd95⟩
def tr95 : List Nat := [0, 1, 2, 3, 6]
def bd96 : Stm :=
 q (s [(2, i 0)]) (q (s [(2, b .sub (b .sub (n1 .len (ld (fa 9 (n1 .nilChk (x 0))))) (i 1)) (x 1))]) .ret)
def cf96 : CF := ⟨2, 3, [(.var 2)], bd96⟩
def tr96 : List Nat := [0, 1, 4]
def bd97 : Stm :=
 q (q (h 4 .box (c1 (x 0))) (s [(5, .cst (.slice none 0 0))])) (q (q (h 10 (.mkSl [.int .i64 0]) (c2 (x 3) (x 3))) (s [(6, x 10)])) (q (q (s [(13, i 0), (12, n1
 .len (x 1)), (11, x 1)]) (.block 0 (.loop (q (.cond (b .lss (x 13) (x 12)) .skip (.exit 0)) (q (.block 1 (q (s [(8, ld (n2 (.iAddr 1) (x 11) (x 13))), (7, x
 13)]) (q (s [(9, i 0)]) (.block 2 (.loop (q (.cond (p (b .lss (x 9) (n1 .len (x 2))) (b .lss (b .add (x 7) (x 9)) (x 3)) (.cst (.bool false))) .skip (.exit
 2)) (q (.block 3 (q (.hv [(17, ld (n2 (.iAddr 1) (x 6) (b .add (x 7) (x 9)))), (16, n1 (.ld 4 true) (x 4)), (15, b .add (x 7) (x 9)), (14, x 6)] [] [] (some
 18) (.call true) (c (.cst (.func (.func 70) #[] #[])) (c3 (n1 (.ld 4 true) (x 4)) (x 8) (ld (n2 (.iAddr 1) (x 2) (x 9)))))) (q (cl 19 69 (c3 (x 16) (x 17) (x
 18))) (.hv [] [] [] none (.st 1) (c2 (n2 (.iAddr 1) (x 14) (x 15)) (x 19)))))) (s [(9, b .add (x 9) (i 1))])))))))) (s [(13, b .add (x 13) (i 1))])))))) (q (s
 [(5, x 6)]) .ret)))
def cf97 : CF := ⟨4, 20, [(.var 5)], bd97⟩
def tr97 : List Nat := [0, 1, 2, 3, 4, 8, 9, 10, 11, 12, 14, 15, 16, 17, 35, 38, 39, 45, 52, 53]
def bd98 : Stm :=
 q (q (h 3 .box (c1 (x 0))) (s [(4, i 0)])) (q (s [(5, i 0)]) (q (q (s [(6, b .sub (n1 .len (x 1)) (i 1))]) (.block 0 (.loop (q (.cond (b .geq (x 6) (i 0)) .skip
 (.exit 0)) (q (.block 1 (q (.hv [(9, ld (n2 (.iAddr 1) (x 1) (x 6))), (7, n1 (.ld 4 true) (x 3))] [] [] (some 8) (.call true) (c (.cst (.func (.func 70) #[]
 #[])) (c3 (n1 (.ld 4 true) (x 3)) (x 5) (x 2)))) (q (cl 10 69 (c3 (x 7) (x 8) (x 9))) (s [(5, x 10)])))) (s [(6, b .sub (x 6) (i 1))])))))) (q (s [(4, x 5)])
 .ret)))
def cf98 : CF := ⟨3, 11, [(.var 4)], bd98⟩
def tr98 : List Nat := [0, 1, 2, 3, 6, 7, 8, 16, 20, 24, 25]
def bd99 : Stm :=
 q (q (h 2 .box (c1 (x 0))) (s [(3, .cst (.slice none 0 0))])) (q (s [(4, .cst (.slice none 0 0))]) (q (q (s [(5, i 1)]) (.block 0 (.loop (q (.cond (b .lss (x 5)
 (n1 .len (x 1))) .skip (.exit 0)) (q (.block 1 (q (.hv [(6, x 4)] [] [] (some 7) (.call false) (c (.cst (.func (.func 70) #[] #[])) (c3 (n1 (.ld 4 true) (x
 2)) (b .rem (x 5) (ld (fa 0 (x 2)))) (ld (n2 (.iAddr 1) (x 1) (x 5)))))) (q (h 8 (.bSl [.int .i64 0] 1 [0]) (c1 (x 7))) (q (h 9 (.app 1 [.int .i64 0]) (c2 (x
 6) (x 8))) (s [(4, x 9)]))))) (s [(5, b .add (x 5) (i 1))])))))) (q (s [(3, x 4)]) .ret)))
def cf99 : CF := ⟨2, 10, [(.var 3)], bd99⟩
def tr99 : List Nat := [0, 1, 2, 4, 5, 6, 13, 23, 24, 25]
def bd100 : Stm :=
 q (s [(1, i 0)]) (q (.cond (b .geq (x 0) (.cst (.int .u32 65536))) (q (s [(0, b .shr (x 0) (.cst (.int .u64 16)))]) (s [(1, i 16)])) .skip) (q (.cond (b .geq (x
 0) (.cst (.int .u32 256))) (q (s [(0, b .shr (x 0) (.cst (.int .u64 8)))]) (s [(1, b .add (x 1) (i 8))])) .skip) (q (s [(1, b .add (x 1) (n1 (.cvt .i64) (n2
 .idxS (.cst (.string lit0)) (n1 (.cvt .u8) (x 0)))))]) .ret)))
def cf100 : CF := ⟨1, 2, [(.var 1)], bd100⟩
def tr100 : List Nat := [0, 2]
def bd101 : Stm :=
 q (s [(1, i 0)]) (q (.cond (b .geq (x 0) (.cst (.int .u64 4294967296))) (q (s [(0, b .shr (x 0) (.cst (.int .u64 32)))]) (s [(1, i 32)])) .skip) (q (.cond (b
 .geq (x 0) (.cst (.int .u64 65536))) (q (s [(0, b .shr (x 0) (.cst (.int .u64 16)))]) (s [(1, b .add (x 1) (i 16))])) .skip) (q (.cond (b .geq (x 0) (.cst
 (.int .u64 256))) (q (s [(0, b .shr (x 0) (.cst (.int .u64 8)))]) (s [(1, b .add (x 1) (i 8))])) .skip) (q (s [(1, b .add (x 1) (n1 (.cvt .i64) (n2 .idxS
 (.cst (.string lit0)) (n1 (.cvt .u8) (x 0)))))]) .ret))))
def cf101 : CF := ⟨1, 2, [(.var 1)], bd101⟩
def tr101 : List Nat := [0, 2]
def bd102 : Stm :=
 q (q (h 2 .box (c1 (x 0))) (s [(3, i 0)])) (q (s [(4, i 1)]) (q (q (s [(5, x 1)]) (.block 0 (.loop (q (.cond (b .neq (x 5) (i 1)) .skip (.exit 0)) (q (.block 1
 (s [(4, b .add (x 4) (i 1))])) (q (cl 6 89 (c3 (n1 (.ld 3 true) (x 2)) (x 5) (x 1))) (s [(5, x 6)]))))))) (q (s [(3, x 4)]) .ret)))
def cf102 : CF := ⟨2, 7, [(.var 3)], bd102⟩
def tr102 : List Nat := [0, 1, 2, 4, 5, 6, 13]
def bd103 : Stm :=
 q (q (h 2 .box (c1 (x 0))) (s [(3, i 0)])) (q (s [(5, x 1), (4, i 1)]) (q (.block 0 (.loop (q (.cond (p (b .neq (x 5) (i 1)) (b .lss (x 4) (ld (fa 1 (x 2))))
 (.cst (.bool false))) .skip (.exit 0)) (.block 1 (q (q (cl 6 29 (c3 (n1 (.ld 3 true) (x 2)) (x 5) (x 1))) (s [(5, x 6)])) (s [(4, b .add (x 4) (i 1))]))))))
 (q (s [(3, x 4)]) .ret)))
def cf103 : CF := ⟨2, 7, [(.var 3)], bd103⟩
def tr103 : List Nat := [0, 1, 2, 4, 5, 6, 19]
end
theorem is2 : compFunc Try.prog tr2 2 = some cf2 := by kernel_rfl
theorem is3 : compFunc Try.prog tr3 3 = some cf3 := by kernel_rfl
theorem is4 : compFunc Try.prog tr4 4 = some cf4 := by kernel_rfl
theorem is5 : compFunc Try.prog tr5 5 = some cf5 := by kernel_rfl
theorem is6 : compFunc Try.prog tr6 6 = some cf6 := by kernel_rfl
theorem is7 : compFunc Try.prog tr7 7 = some cf7 := by kernel_rfl
theorem is8 : compFunc Try.prog tr8 8 = some cf8 := by kernel_rfl
theorem is9 : compFunc Try.prog tr9 9 = some cf9 := by kernel_rfl
theorem is10 : compFunc Try.prog tr10 10 = some cf10 := by kernel_rfl
theorem is11 : compFunc Try.prog tr11 11 = some cf11 := by kernel_rfl
theorem is12 : compFunc Try.prog tr12 12 = some cf12 := by kernel_rfl
theorem is13 : compFunc Try.prog tr13 13 = some cf13 := by kernel_rfl
theorem is14 : compFunc Try.prog tr14 14 = some cf14 := by kernel_rfl
theorem is15 : compFunc Try.prog tr15 15 = some cf15 := by kernel_rfl
theorem is16 : compFunc Try.prog tr16 16 = some cf16 := by kernel_rfl
theorem is17 : compFunc Try.prog tr17 17 = some cf17 := by kernel_rfl
theorem is18 : compFunc Try.prog tr18 18 = some cf18 := by kernel_rfl
theorem is19 : compFunc Try.prog tr19 19 = some cf19 := by kernel_rfl
theorem is20 : compFunc Try.prog tr20 20 = some cf20 := by kernel_rfl
theorem is21 : compFunc Try.prog tr21 21 = some cf21 := by kernel_rfl
theorem is22 : compFunc Try.prog tr22 22 = some cf22 := by kernel_rfl
theorem is23 : compFunc Try.prog tr23 23 = some cf23 := by kernel_rfl
theorem is24 : compFunc Try.prog tr24 24 = some cf24 := by kernel_rfl
theorem is25 : compFunc Try.prog tr25 25 = some cf25 := by kernel_rfl
theorem is26 : compFunc Try.prog tr26 26 = some cf26 := by kernel_rfl
theorem is27 : compFunc Try.prog tr27 27 = some cf27 := by kernel_rfl
theorem is28 : compFunc Try.prog tr28 28 = some cf28 := by kernel_rfl
theorem is29 : compFunc Try.prog tr29 29 = some cf29 := by kernel_rfl
theorem is30 : compFunc Try.prog tr30 30 = some cf30 := by kernel_rfl
theorem is31 : compFunc Try.prog tr31 31 = some cf31 := by kernel_rfl
theorem is32 : compFunc Try.prog tr32 32 = some cf32 := by kernel_rfl
theorem is33 : compFunc Try.prog tr33 33 = some cf33 := by kernel_rfl
theorem is34 : compFunc Try.prog tr34 34 = some cf34 := by kernel_rfl
theorem is35 : compFunc Try.prog tr35 35 = some cf35 := by kernel_rfl
theorem is36 : compFunc Try.prog tr36 36 = some cf36 := by kernel_rfl
theorem is37 : compFunc Try.prog tr37 37 = some cf37 := by kernel_rfl
theorem is38 : compFunc Try.prog tr38 38 = some cf38 := by kernel_rfl
theorem is39 : compFunc Try.prog tr39 39 = some cf39 := by kernel_rfl
theorem is40 : compFunc Try.prog tr40 40 = some cf40 := by kernel_rfl
theorem is41 : compFunc Try.prog tr41 41 = some cf41 := by kernel_rfl
theorem is42 : compFunc Try.prog tr42 42 = some cf42 := by kernel_rfl
theorem is43 : compFunc Try.prog tr43 43 = some cf43 := by kernel_rfl
theorem is44 : compFunc Try.prog tr44 44 = some cf44 := by kernel_rfl
theorem is45 : compFunc Try.prog tr45 45 = some cf45 := by kernel_rfl
theorem is46 : compFunc Try.prog tr46 46 = some cf46 := by kernel_rfl
theorem is47 : compFunc Try.prog tr47 47 = some cf47 := by kernel_rfl
theorem is48 : compFunc Try.prog tr48 48 = some cf48 := by kernel_rfl
theorem is49 : compFunc Try.prog tr49 49 = some cf49 := by kernel_rfl
theorem is50 : compFunc Try.prog tr50 50 = some cf50 := by kernel_rfl
theorem is51 : compFunc Try.prog tr51 51 = some cf51 := by kernel_rfl
theorem is52 : compFunc Try.prog tr52 52 = some cf52 := by kernel_rfl
theorem is53 : compFunc Try.prog tr53 53 = some cf53 := by kernel_rfl
theorem is54 : compFunc Try.prog tr54 54 = some cf54 := by kernel_rfl
theorem is55 : compFunc Try.prog tr55 55 = some cf55 := by kernel_rfl
theorem is56 : compFunc Try.prog tr56 56 = some cf56 := by kernel_rfl
theorem is57 : compFunc Try.prog tr57 57 = some cf57 := by kernel_rfl
theorem is58 : compFunc Try.prog tr58 58 = some cf58 := by kernel_rfl
theorem is59 : compFunc Try.prog tr59 59 = some cf59 := by kernel_rfl
theorem is60 : compFunc Try.prog tr60 60 = some cf60 := by kernel_rfl
theorem is61 : compFunc Try.prog tr61 61 = some cf61 := by kernel_rfl
theorem is62 : compFunc Try.prog tr62 62 = some cf62 := by kernel_rfl
theorem is63 : compFunc Try.prog tr63 63 = some cf63 := by kernel_rfl
theorem is64 : compFunc Try.prog tr64 64 = some cf64 := by kernel_rfl
theorem is65 : compFunc Try.prog tr65 65 = some cf65 := by kernel_rfl
theorem is66 : compFunc Try.prog tr66 66 = some cf66 := by kernel_rfl
theorem is67 : compFunc Try.prog tr67 67 = some cf67 := by kernel_rfl
theorem is68 : compFunc Try.prog tr68 68 = some cf68 := by kernel_rfl
theorem is69 : compFunc Try.prog tr69 69 = some cf69 := by kernel_rfl
theorem is70 : compFunc Try.prog tr70 70 = some cf70 := by kernel_rfl
theorem is71 : compFunc Try.prog tr71 71 = some cf71 := by kernel_rfl
theorem is72 : compFunc Try.prog tr72 72 = some cf72 := by kernel_rfl
theorem is73 : compFunc Try.prog tr73 73 = some cf73 := by kernel_rfl
theorem is74 : compFunc Try.prog tr74 74 = some cf74 := by kernel_rfl
theorem is75 : compFunc Try.prog tr75 75 = some cf75 := by kernel_rfl
theorem is76 : compFunc Try.prog tr76 76 = some cf76 := by kernel_rfl
theorem is77 : compFunc Try.prog tr77 77 = some cf77 := by kernel_rfl
theorem is78 : compFunc Try.prog tr78 78 = some cf78 := by kernel_rfl
theorem is79 : compFunc Try.prog tr79 79 = some cf79 := by kernel_rfl
theorem is80 : compFunc Try.prog tr80 80 = some cf80 := by kernel_rfl
theorem is81 : compFunc Try.prog tr81 81 = some cf81 := by kernel_rfl
theorem is82 : compFunc Try.prog tr82 82 = some cf82 := by kernel_rfl
theorem is83 : compFunc Try.prog tr83 83 = some cf83 := by kernel_rfl
theorem is84 : compFunc Try.prog tr84 84 = some cf84 := by kernel_rfl
theorem is85 : compFunc Try.prog tr85 85 = some cf85 := by kernel_rfl
theorem is86 : compFunc Try.prog tr86 86 = some cf86 := by kernel_rfl
theorem is87 : compFunc Try.prog tr87 87 = some cf87 := by kernel_rfl
theorem is88 : compFunc Try.prog tr88 88 = some cf88 := by kernel_rfl
theorem is89 : compFunc Try.prog tr89 89 = some cf89 := by kernel_rfl
theorem is90 : compFunc Try.prog tr90 90 = some cf90 := by kernel_rfl
theorem is91 : compFunc Try.prog tr91 91 = some cf91 := by kernel_rfl
theorem is92 : compFunc Try.prog tr92 92 = some cf92 := by kernel_rfl
theorem is93 : compFunc Try.prog tr93 93 = some cf93 := by kernel_rfl
theorem is94 : compFunc Try.prog tr94 94 = some cf94 := by kernel_rfl
theorem is95 : compFunc Try.prog tr95 95 = some cf95 := by kernel_rfl
theorem is96 : compFunc Try.prog tr96 96 = some cf96 := by kernel_rfl
theorem is97 : compFunc Try.prog tr97 97 = some cf97 := by kernel_rfl
theorem is98 : compFunc Try.prog tr98 98 = some cf98 := by kernel_rfl
theorem is99 : compFunc Try.prog tr99 99 = some cf99 := by kernel_rfl
theorem is100 : compFunc Try.prog tr100 100 = some cf100 := by kernel_rfl
theorem is101 : compFunc Try.prog tr101 101 = some cf101 := by kernel_rfl
theorem is102 : compFunc Try.prog tr102 102 = some cf102 := by kernel_rfl
theorem is103 : compFunc Try.prog tr103 103 = some cf103 := by kernel_rfl
def cp : FuncId → Option CF
 | 2 => some cf2
 | 3 => some cf3
 | 4 => some cf4
 | 5 => some cf5
 | 6 => some cf6
 | 7 => some cf7
 | 8 => some cf8
 | 9 => some cf9
 | 10 => some cf10
 | 11 => some cf11
 | 12 => some cf12
 | 13 => some cf13
 | 14 => some cf14
 | 15 => some cf15
 | 16 => some cf16
 | 17 => some cf17
 | 18 => some cf18
 | 19 => some cf19
 | 20 => some cf20
 | 21 => some cf21
 | 22 => some cf22
 | 23 => some cf23
 | 24 => some cf24
 | 25 => some cf25
 | 26 => some cf26
 | 27 => some cf27
 | 28 => some cf28
 | 29 => some cf29
 | 30 => some cf30
 | 31 => some cf31
 | 32 => some cf32
 | 33 => some cf33
 | 34 => some cf34
 | 35 => some cf35
 | 36 => some cf36
 | 37 => some cf37
 | 38 => some cf38
 | 39 => some cf39
 | 40 => some cf40
 | 41 => some cf41
 | 42 => some cf42
 | 43 => some cf43
 | 44 => some cf44
 | 45 => some cf45
 | 46 => some cf46
 | 47 => some cf47
 | 48 => some cf48
 | 49 => some cf49
 | 50 => some cf50
 | 51 => some cf51
 | 52 => some cf52
 | 53 => some cf53
 | 54 => some cf54
 | 55 => some cf55
 | 56 => some cf56
 | 57 => some cf57
 | 58 => some cf58
 | 59 => some cf59
 | 60 => some cf60
 | 61 => some cf61
 | 62 => some cf62
 | 63 => some cf63
 | 64 => some cf64
 | 65 => some cf65
 | 66 => some cf66
 | 67 => some cf67
 | 68 => some cf68
 | 69 => some cf69
 | 70 => some cf70
 | 71 => some cf71
 | 72 => some cf72
 | 73 => some cf73
 | 74 => some cf74
 | 75 => some cf75
 | 76 => some cf76
 | 77 => some cf77
 | 78 => some cf78
 | 79 => some cf79
 | 80 => some cf80
 | 81 => some cf81
 | 82 => some cf82
 | 83 => some cf83
 | 84 => some cf84
 | 85 => some cf85
 | 86 => some cf86
 | 87 => some cf87
 | 88 => some cf88
 | 89 => some cf89
 | 90 => some cf90
 | 91 => some cf91
 | 92 => some cf92
 | 93 => some cf93
 | 94 => some cf94
 | 95 => some cf95
 | 96 => some cf96
 | 97 => some cf97
 | 98 => some cf98
 | 99 => some cf99
 | 100 => some cf100
 | 101 => some cf101
 | 102 => some cf102
 | 103 => some cf103
 | _ => none
theorem compiled : Compiled Try.prog cp := by
 intro f cf h
 unfold cp at h
 split at h
 ·cases h; exact ⟨_, is2⟩
 ·cases h; exact ⟨_, is3⟩
 ·cases h; exact ⟨_, is4⟩
 ·cases h; exact ⟨_, is5⟩
 ·cases h; exact ⟨_, is6⟩
 ·cases h; exact ⟨_, is7⟩
 ·cases h; exact ⟨_, is8⟩
 ·cases h; exact ⟨_, is9⟩
 ·cases h; exact ⟨_, is10⟩
 ·cases h; exact ⟨_, is11⟩
 ·cases h; exact ⟨_, is12⟩
 ·cases h; exact ⟨_, is13⟩
 ·cases h; exact ⟨_, is14⟩
 ·cases h; exact ⟨_, is15⟩
 ·cases h; exact ⟨_, is16⟩
 ·cases h; exact ⟨_, is17⟩
 ·cases h; exact ⟨_, is18⟩
 ·cases h; exact ⟨_, is19⟩
 ·cases h; exact ⟨_, is20⟩
 ·cases h; exact ⟨_, is21⟩
 ·cases h; exact ⟨_, is22⟩
 ·cases h; exact ⟨_, is23⟩
 ·cases h; exact ⟨_, is24⟩
 ·cases h; exact ⟨_, is25⟩
 ·cases h; exact ⟨_, is26⟩
 ·cases h; exact ⟨_, is27⟩
 ·cases h; exact ⟨_, is28⟩
 ·cases h; exact ⟨_, is29⟩
 ·cases h; exact ⟨_, is30⟩
 ·cases h; exact ⟨_, is31⟩
 ·cases h; exact ⟨_, is32⟩
 ·cases h; exact ⟨_, is33⟩
 ·cases h; exact ⟨_, is34⟩
 ·cases h; exact ⟨_, is35⟩
 ·cases h; exact ⟨_, is36⟩
 ·cases h; exact ⟨_, is37⟩
 ·cases h; exact ⟨_, is38⟩
 ·cases h; exact ⟨_, is39⟩
 ·cases h; exact ⟨_, is40⟩
 ·cases h; exact ⟨_, is41⟩
 ·cases h; exact ⟨_, is42⟩
 ·cases h; exact ⟨_, is43⟩
 ·cases h; exact ⟨_, is44⟩
 ·cases h; exact ⟨_, is45⟩
 ·cases h; exact ⟨_, is46⟩
 ·cases h; exact ⟨_, is47⟩
 ·cases h; exact ⟨_, is48⟩
 ·cases h; exact ⟨_, is49⟩
 ·cases h; exact ⟨_, is50⟩
 ·cases h; exact ⟨_, is51⟩
 ·cases h; exact ⟨_, is52⟩
 ·cases h; exact ⟨_, is53⟩
 ·cases h; exact ⟨_, is54⟩
 ·cases h; exact ⟨_, is55⟩
 ·cases h; exact ⟨_, is56⟩
 ·cases h; exact ⟨_, is57⟩
 ·cases h; exact ⟨_, is58⟩
 ·cases h; exact ⟨_, is59⟩
 ·cases h; exact ⟨_, is60⟩
 ·cases h; exact ⟨_, is61⟩
 ·cases h; exact ⟨_, is62⟩
 ·cases h; exact ⟨_, is63⟩
 ·cases h; exact ⟨_, is64⟩
 ·cases h; exact ⟨_, is65⟩
 ·cases h; exact ⟨_, is66⟩
 ·cases h; exact ⟨_, is67⟩
 ·cases h; exact ⟨_, is68⟩
 ·cases h; exact ⟨_, is69⟩
 ·cases h; exact ⟨_, is70⟩
 ·cases h; exact ⟨_, is71⟩
 ·cases h; exact ⟨_, is72⟩
 ·cases h; exact ⟨_, is73⟩
 ·cases h; exact ⟨_, is74⟩
 ·cases h; exact ⟨_, is75⟩
 ·cases h; exact ⟨_, is76⟩
 ·cases h; exact ⟨_, is77⟩
 ·cases h; exact ⟨_, is78⟩
 ·cases h; exact ⟨_, is79⟩
 ·cases h; exact ⟨_, is80⟩
 ·cases h; exact ⟨_, is81⟩
 ·cases h; exact ⟨_, is82⟩
 ·cases h; exact ⟨_, is83⟩
 ·cases h; exact ⟨_, is84⟩
 ·cases h; exact ⟨_, is85⟩
 ·cases h; exact ⟨_, is86⟩
 ·cases h; exact ⟨_, is87⟩
 ·cases h; exact ⟨_, is88⟩
 ·cases h; exact ⟨_, is89⟩
 ·cases h; exact ⟨_, is90⟩
 ·cases h; exact ⟨_, is91⟩
 ·cases h; exact ⟨_, is92⟩
 ·cases h; exact ⟨_, is93⟩
 ·cases h; exact ⟨_, is94⟩
 ·cases h; exact ⟨_, is95⟩
 ·cases h; exact ⟨_, is96⟩
 ·cases h; exact ⟨_, is97⟩
 ·cases h; exact ⟨_, is98⟩
 ·cases h; exact ⟨_, is99⟩
 ·cases h; exact ⟨_, is100⟩
 ·cases h; exact ⟨_, is101⟩
 ·cases h; exact ⟨_, is102⟩
 ·cases h; exact ⟨_, is103⟩
 ·simp at h
theorem mixed : Try.prog.follows .mixedOrders = true := by kernel_rfl
theorem okAll (base n : Nat) : CallOK Try.prog base Try.prog.globals.size (run cp n) := sound mixed compiled base n
theorem st6 {lo : Nat} {H : Heap} {R : Value → Heap → Prop} {a0 : Value} (h : wpS cp lo bd6 (bodyQ cf6 R) [a0, undef, undef, undef, undef, undef, undef, undef, undef, undef, undef, undef, undef, undef, undef, undef, undef, undef, undef, undef] H) : Ev cp lo 6 [a0] H R := ev_of_wp (cf := cf6) rfl rfl h
theorem st10 {lo : Nat} {H : Heap} {R : Value → Heap → Prop} {a0 a1 a2 : Value} (h : wpS cp lo bd10 (bodyQ cf10 R) [a0, a1, a2, undef, undef, undef, undef, undef] H) : Ev cp lo 10 [a0, a1, a2] H R := ev_of_wp (cf := cf10) rfl rfl h
theorem st12 {lo : Nat} {H : Heap} {R : Value → Heap → Prop} (h : wpS cp lo bd12 (bodyQ cf12 R) [undef, undef, undef, undef, undef, undef, undef, undef, undef, undef, undef, undef, undef, undef, undef, undef, undef, undef, undef, undef, undef, undef, undef, undef, undef, undef, undef, undef, undef, undef, undef, undef, undef, undef, undef, undef, undef, undef, undef, undef, undef, undef, undef, undef, undef, undef, undef, undef, undef, undef, undef, undef, undef, undef, undef, undef, undef, undef, undef, undef, undef, undef, undef, undef, undef, undef, undef, undef] H) : Ev cp lo 12 [] H R := ev_of_wp (cf := cf12) rfl rfl h
theorem st13 {lo : Nat} {H : Heap} {R : Value → Heap → Prop} {a0 : Value} (h : wpS cp lo bd13 (bodyQ cf13 R) [a0, undef, undef, undef, undef, undef, undef, undef, undef, undef, undef, undef, undef, undef, undef, undef] H) : Ev cp lo 13 [a0] H R := ev_of_wp (cf := cf13) rfl rfl h
theorem st15 {lo : Nat} {H : Heap} {R : Value → Heap → Prop} {a0 a1 : Value} (h : wpS cp lo bd15 (bodyQ cf15 R) [a0, a1, undef, undef] H) : Ev cp lo 15 [a0, a1] H R := ev_of_wp (cf := cf15) rfl rfl h
theorem st16 {lo : Nat} {H : Heap} {R : Value → Heap → Prop} {a0 : Value} (h : wpS cp lo bd16 (bodyQ cf16 R) [a0, undef, undef] H) : Ev cp lo 16 [a0] H R := ev_of_wp (cf := cf16) rfl rfl h
theorem st17 {lo : Nat} {H : Heap} {R : Value → Heap → Prop} {a0 a1 : Value} (h : wpS cp lo bd17 (bodyQ cf17 R) [a0, a1, undef, undef, undef, undef, undef, undef, undef, undef, undef, undef, undef, undef, undef, undef, undef, undef, undef, undef, undef, undef, undef, undef, undef, undef, undef, undef, undef, undef, undef, undef, undef, undef, undef] H) : Ev cp lo 17 [a0, a1] H R := ev_of_wp (cf := cf17) rfl rfl h
theorem st19 {lo : Nat} {H : Heap} {R : Value → Heap → Prop} {a0 a1 : Value} (h : wpS cp lo bd19 (bodyQ cf19 R) [a0, a1, undef, undef, undef, undef, undef, undef, undef, undef, undef] H) : Ev cp lo 19 [a0, a1] H R := ev_of_wp (cf := cf19) rfl rfl h
theorem st21 {lo : Nat} {H : Heap} {R : Value → Heap → Prop} {a0 a1 : Value} (h : wpS cp lo bd21 (bodyQ cf21 R) [a0, a1, undef, undef, undef, undef, undef, undef, undef, undef] H) : Ev cp lo 21 [a0, a1] H R := ev_of_wp (cf := cf21) rfl rfl h
theorem st23 {lo : Nat} {H : Heap} {R : Value → Heap → Prop} {a0 a1 a2 : Value} (h : wpS cp lo bd23 (bodyQ cf23 R) [a0, a1, a2, undef, undef, undef, undef, undef, undef, undef, undef, undef, undef, undef, undef, undef, undef, undef, undef, undef, undef, undef, undef, undef, undef, undef, undef, undef, undef, undef, undef, undef] H) : Ev cp lo 23 [a0, a1, a2] H R := ev_of_wp (cf := cf23) rfl rfl h
theorem st24 {lo : Nat} {H : Heap} {R : Value → Heap → Prop} {a0 a1 a2 : Value} (h : wpS cp lo bd24 (bodyQ cf24 R) [a0, a1, a2, undef, undef, undef, undef, undef, undef, undef, undef, undef, undef, undef, undef] H) : Ev cp lo 24 [a0, a1, a2] H R := ev_of_wp (cf := cf24) rfl rfl h
theorem st25 {lo : Nat} {H : Heap} {R : Value → Heap → Prop} {a0 : Value} (h : wpS cp lo bd25 (bodyQ cf25 R) [a0, undef, undef, undef, undef] H) : Ev cp lo 25 [a0] H R := ev_of_wp (cf := cf25) rfl rfl h
theorem st27 {lo : Nat} {H : Heap} {R : Value → Heap → Prop} {a0 a1 : Value} (h : wpS cp lo bd27 (bodyQ cf27 R) [a0, a1, undef, undef] H) : Ev cp lo 27 [a0, a1] H R := ev_of_wp (cf := cf27) rfl rfl h
theorem st28 {lo : Nat} {H : Heap} {R : Value → Heap → Prop} {a0 a1 a2 : Value} (h : wpS cp lo bd28 (bodyQ cf28 R) [a0, a1, a2, undef, undef] H) : Ev cp lo 28 [a0, a1, a2] H R := ev_of_wp (cf := cf28) rfl rfl h
theorem st29 {lo : Nat} {H : Heap} {R : Value → Heap → Prop} {a0 a1 a2 : Value} (h : wpS cp lo bd29 (bodyQ cf29 R) [a0, a1, a2, undef, undef, undef, undef, undef] H) : Ev cp lo 29 [a0, a1, a2] H R := ev_of_wp (cf := cf29) rfl rfl h
theorem st30 {lo : Nat} {H : Heap} {R : Value → Heap → Prop} {a0 : Value} (h : wpS cp lo bd30 (bodyQ cf30 R) [a0, undef, undef, undef, undef, undef, undef, undef, undef, undef, undef, undef] H) : Ev cp lo 30 [a0] H R := ev_of_wp (cf := cf30) rfl rfl h
theorem st31 {lo : Nat} {H : Heap} {R : Value → Heap → Prop} {a0 a1 a2 : Value} (h : wpS cp lo bd31 (bodyQ cf31 R) [a0, a1, a2, undef, undef] H) : Ev cp lo 31 [a0, a1, a2] H R := ev_of_wp (cf := cf31) rfl rfl h
theorem st32 {lo : Nat} {H : Heap} {R : Value → Heap → Prop} {a0 : Value} (h : wpS cp lo bd32 (bodyQ cf32 R) [a0, undef, undef, undef, undef, undef, undef, undef, undef] H) : Ev cp lo 32 [a0] H R := ev_of_wp (cf := cf32) rfl rfl h
theorem st33 {lo : Nat} {H : Heap} {R : Value → Heap → Prop} {a0 a1 : Value} (h : wpS cp lo bd33 (bodyQ cf33 R) [a0, a1, undef, undef, undef, undef, undef, undef, undef] H) : Ev cp lo 33 [a0, a1] H R := ev_of_wp (cf := cf33) rfl rfl h
theorem st34 {lo : Nat} {H : Heap} {R : Value → Heap → Prop} {a0 : Value} (h : wpS cp lo bd34 (bodyQ cf34 R) [a0, undef, undef, undef, undef, undef, undef, undef, undef, undef, undef, undef, undef, undef, undef, undef, undef, undef, undef, undef, undef, undef] H) : Ev cp lo 34 [a0] H R := ev_of_wp (cf := cf34) rfl rfl h
theorem st35 {lo : Nat} {H : Heap} {R : Value → Heap → Prop} {a0 a1 : Value} (h : wpS cp lo bd35 (bodyQ cf35 R) [a0, a1, undef, undef] H) : Ev cp lo 35 [a0, a1] H R := ev_of_wp (cf := cf35) rfl rfl h
theorem st36 {lo : Nat} {H : Heap} {R : Value → Heap → Prop} {a0 a1 : Value} (h : wpS cp lo bd36 (bodyQ cf36 R) [a0, a1, undef, undef, undef, undef, undef, undef, undef, undef, undef, undef, undef, undef, undef, undef, undef] H) : Ev cp lo 36 [a0, a1] H R := ev_of_wp (cf := cf36) rfl rfl h
theorem st38 {lo : Nat} {H : Heap} {R : Value → Heap → Prop} {a0 a1 : Value} (h : wpS cp lo bd38 (bodyQ cf38 R) [a0, a1, undef, undef] H) : Ev cp lo 38 [a0, a1] H R := ev_of_wp (cf := cf38) rfl rfl h
theorem st39 {lo : Nat} {H : Heap} {R : Value → Heap → Prop} {a0 a1 a2 : Value} (h : wpS cp lo bd39 (bodyQ cf39 R) [a0, a1, a2, undef, undef, undef, undef, undef, undef, undef, undef, undef] H) : Ev cp lo 39 [a0, a1, a2] H R := ev_of_wp (cf := cf39) rfl rfl h
theorem st40 {lo : Nat} {H : Heap} {R : Value → Heap → Prop} {a0 : Value} (h : wpS cp lo bd40 (bodyQ cf40 R) [a0, undef, undef, undef] H) : Ev cp lo 40 [a0] H R := ev_of_wp (cf := cf40) rfl rfl h
theorem st41 {lo : Nat} {H : Heap} {R : Value → Heap → Prop} {a0 a1 a2 : Value} (h : wpS cp lo bd41 (bodyQ cf41 R) [a0, a1, a2, undef, undef, undef, undef, undef, undef] H) : Ev cp lo 41 [a0, a1, a2] H R := ev_of_wp (cf := cf41) rfl rfl h
theorem st42 {lo : Nat} {H : Heap} {R : Value → Heap → Prop} {a0 a1 : Value} (h : wpS cp lo bd42 (bodyQ cf42 R) [a0, a1, undef, undef, undef, undef] H) : Ev cp lo 42 [a0, a1] H R := ev_of_wp (cf := cf42) rfl rfl h
theorem st43 {lo : Nat} {H : Heap} {R : Value → Heap → Prop} {a0 a1 a2 : Value} (h : wpS cp lo bd43 (bodyQ cf43 R) [a0, a1, a2, undef, undef] H) : Ev cp lo 43 [a0, a1, a2] H R := ev_of_wp (cf := cf43) rfl rfl h
theorem st44 {lo : Nat} {H : Heap} {R : Value → Heap → Prop} {a0 a1 a2 : Value} (h : wpS cp lo bd44 (bodyQ cf44 R) [a0, a1, a2, undef, undef, undef, undef, undef, undef, undef, undef, undef, undef, undef, undef, undef, undef, undef, undef, undef, undef, undef, undef] H) : Ev cp lo 44 [a0, a1, a2] H R := ev_of_wp (cf := cf44) rfl rfl h
theorem st45 {lo : Nat} {H : Heap} {R : Value → Heap → Prop} {a0 a1 : Value} (h : wpS cp lo bd45 (bodyQ cf45 R) [a0, a1, undef, undef, undef, undef, undef, undef, undef, undef, undef, undef] H) : Ev cp lo 45 [a0, a1] H R := ev_of_wp (cf := cf45) rfl rfl h
theorem st46 {lo : Nat} {H : Heap} {R : Value → Heap → Prop} {a0 a1 : Value} (h : wpS cp lo bd46 (bodyQ cf46 R) [a0, a1, undef, undef, undef, undef, undef, undef] H) : Ev cp lo 46 [a0, a1] H R := ev_of_wp (cf := cf46) rfl rfl h
theorem st47 {lo : Nat} {H : Heap} {R : Value → Heap → Prop} {a0 a1 : Value} (h : wpS cp lo bd47 (bodyQ cf47 R) [a0, a1, undef, undef, undef, undef, undef, undef, undef, undef, undef, undef, undef, undef, undef, undef, undef, undef, undef, undef, undef, undef, undef, undef, undef, undef, undef, undef] H) : Ev cp lo 47 [a0, a1] H R := ev_of_wp (cf := cf47) rfl rfl h
theorem st48 {lo : Nat} {H : Heap} {R : Value → Heap → Prop} {a0 a1 : Value} (h : wpS cp lo bd48 (bodyQ cf48 R) [a0, a1, undef, undef, undef, undef, undef, undef, undef, undef, undef, undef, undef, undef, undef, undef, undef, undef, undef, undef, undef, undef, undef, undef, undef, undef, undef, undef, undef, undef, undef, undef] H) : Ev cp lo 48 [a0, a1] H R := ev_of_wp (cf := cf48) rfl rfl h
theorem st49 {lo : Nat} {H : Heap} {R : Value → Heap → Prop} {a0 : Value} (h : wpS cp lo bd49 (bodyQ cf49 R) [a0, undef, undef, undef, undef, undef, undef, undef, undef] H) : Ev cp lo 49 [a0] H R := ev_of_wp (cf := cf49) rfl rfl h
theorem st50 {lo : Nat} {H : Heap} {R : Value → Heap → Prop} {a0 a1 : Value} (h : wpS cp lo bd50 (bodyQ cf50 R) [a0, a1, undef, undef, undef, undef, undef, undef] H) : Ev cp lo 50 [a0, a1] H R := ev_of_wp (cf := cf50) rfl rfl h
theorem st51 {lo : Nat} {H : Heap} {R : Value → Heap → Prop} {a0 a1 a2 a3 : Value} (h : wpS cp lo bd51 (bodyQ cf51 R) [a0, a1, a2, a3, undef, undef, undef, undef, undef, undef, undef, undef, undef, undef, undef, undef, undef, undef, undef, undef, undef, undef, undef, undef, undef, undef, undef, undef, undef, undef, undef, undef, undef, undef, undef, undef, undef, undef, undef, undef, undef, undef, undef, undef, undef, undef, undef, undef, undef, undef, undef, undef, undef, undef, undef, undef, undef, undef, undef] H) : Ev cp lo 51 [a0, a1, a2, a3] H R := ev_of_wp (cf := cf51) rfl rfl h
theorem st52 {lo : Nat} {H : Heap} {R : Value → Heap → Prop} {a0 a1 : Value} (h : wpS cp lo bd52 (bodyQ cf52 R) [a0, a1, undef, undef, undef, undef, undef] H) : Ev cp lo 52 [a0, a1] H R := ev_of_wp (cf := cf52) rfl rfl h
theorem st53 {lo : Nat} {H : Heap} {R : Value → Heap → Prop} {a0 : Value} (h : wpS cp lo bd53 (bodyQ cf53 R) [a0, undef, undef] H) : Ev cp lo 53 [a0] H R := ev_of_wp (cf := cf53) rfl rfl h
theorem st54 {lo : Nat} {H : Heap} {R : Value → Heap → Prop} {a0 : Value} (h : wpS cp lo bd54 (bodyQ cf54 R) [a0, undef, undef] H) : Ev cp lo 54 [a0] H R := ev_of_wp (cf := cf54) rfl rfl h
theorem st55 {lo : Nat} {H : Heap} {R : Value → Heap → Prop} {a0 : Value} (h : wpS cp lo bd55 (bodyQ cf55 R) [a0, undef, undef, undef, undef, undef, undef] H) : Ev cp lo 55 [a0] H R := ev_of_wp (cf := cf55) rfl rfl h
theorem st56 {lo : Nat} {H : Heap} {R : Value → Heap → Prop} {a0 : Value} (h : wpS cp lo bd56 (bodyQ cf56 R) [a0, undef, undef] H) : Ev cp lo 56 [a0] H R := ev_of_wp (cf := cf56) rfl rfl h
theorem st57 {lo : Nat} {H : Heap} {R : Value → Heap → Prop} {a0 a1 : Value} (h : wpS cp lo bd57 (bodyQ cf57 R) [a0, a1, undef, undef, undef, undef, undef, undef] H) : Ev cp lo 57 [a0, a1] H R := ev_of_wp (cf := cf57) rfl rfl h
theorem st58 {lo : Nat} {H : Heap} {R : Value → Heap → Prop} {a0 : Value} (h : wpS cp lo bd58 (bodyQ cf58 R) [a0, undef, undef] H) : Ev cp lo 58 [a0] H R := ev_of_wp (cf := cf58) rfl rfl h
theorem st59 {lo : Nat} {H : Heap} {R : Value → Heap → Prop} {a0 : Value} (h : wpS cp lo bd59 (bodyQ cf59 R) [a0, undef, undef, undef, undef, undef] H) : Ev cp lo 59 [a0] H R := ev_of_wp (cf := cf59) rfl rfl h
theorem st60 {lo : Nat} {H : Heap} {R : Value → Heap → Prop} {a0 a1 a2 : Value} (h : wpS cp lo bd60 (bodyQ cf60 R) [a0, a1, a2, undef, undef, undef, undef, undef, undef, undef] H) : Ev cp lo 60 [a0, a1, a2] H R := ev_of_wp (cf := cf60) rfl rfl h
theorem st61 {lo : Nat} {H : Heap} {R : Value → Heap → Prop} {a0 a1 : Value} (h : wpS cp lo bd61 (bodyQ cf61 R) [a0, a1, undef, undef, undef, undef, undef, undef, undef, undef, undef, undef] H) : Ev cp lo 61 [a0, a1] H R := ev_of_wp (cf := cf61) rfl rfl h
theorem st62 {lo : Nat} {H : Heap} {R : Value → Heap → Prop} {a0 a1 : Value} (h : wpS cp lo bd62 (bodyQ cf62 R) [a0, a1, undef, undef, undef, undef, undef, undef] H) : Ev cp lo 62 [a0, a1] H R := ev_of_wp (cf := cf62) rfl rfl h
theorem st63 {lo : Nat} {H : Heap} {R : Value → Heap → Prop} {a0 : Value} (h : wpS cp lo bd63 (bodyQ cf63 R) [a0, undef, undef, undef, undef, undef, undef, undef, undef, undef, undef, undef, undef, undef, undef, undef, undef, undef, undef, undef, undef, undef] H) : Ev cp lo 63 [a0] H R := ev_of_wp (cf := cf63) rfl rfl h
theorem st64 {lo : Nat} {H : Heap} {R : Value → Heap → Prop} {a0 a1 a2 a3 : Value} (h : wpS cp lo bd64 (bodyQ cf64 R) [a0, a1, a2, a3, undef, undef, undef, undef, undef, undef, undef, undef, undef, undef, undef, undef, undef, undef, undef] H) : Ev cp lo 64 [a0, a1, a2, a3] H R := ev_of_wp (cf := cf64) rfl rfl h
theorem st65 {lo : Nat} {H : Heap} {R : Value → Heap → Prop} {a0 : Value} (h : wpS cp lo bd65 (bodyQ cf65 R) [a0, undef, undef, undef, undef, undef, undef, undef, undef, undef, undef, undef, undef] H) : Ev cp lo 65 [a0] H R := ev_of_wp (cf := cf65) rfl rfl h
theorem st66 {lo : Nat} {H : Heap} {R : Value → Heap → Prop} {a0 a1 a2 a3 : Value} (h : wpS cp lo bd66 (bodyQ cf66 R) [a0, a1, a2, a3, undef, undef, undef, undef, undef, undef, undef, undef, undef, undef, undef, undef] H) : Ev cp lo 66 [a0, a1, a2, a3] H R := ev_of_wp (cf := cf66) rfl rfl h
theorem st67 {lo : Nat} {H : Heap} {R : Value → Heap → Prop} {a0 a1 a2 : Value} (h : wpS cp lo bd67 (bodyQ cf67 R) [a0, a1, a2, undef, undef, undef, undef, undef, undef, undef, undef, undef, undef, undef, undef, undef, undef, undef, undef, undef, undef, undef, undef, undef, undef] H) : Ev cp lo 67 [a0, a1, a2] H R := ev_of_wp (cf := cf67) rfl rfl h
theorem st68 {lo : Nat} {H : Heap} {R : Value → Heap → Prop} {a0 a1 : Value} (h : wpS cp lo bd68 (bodyQ cf68 R) [a0, a1, undef, undef, undef, undef, undef, undef, undef] H) : Ev cp lo 68 [a0, a1] H R := ev_of_wp (cf := cf68) rfl rfl h
theorem st69 {lo : Nat} {H : Heap} {R : Value → Heap → Prop} {a0 a1 a2 : Value} (h : wpS cp lo bd69 (bodyQ cf69 R) [a0, a1, a2, undef, undef] H) : Ev cp lo 69 [a0, a1, a2] H R := ev_of_wp (cf := cf69) rfl rfl h
theorem st70 {lo : Nat} {H : Heap} {R : Value → Heap → Prop} {a0 a1 a2 : Value} (h : wpS cp lo bd70 (bodyQ cf70 R) [a0, a1, a2, undef, undef] H) : Ev cp lo 70 [a0, a1, a2] H R := ev_of_wp (cf := cf70) rfl rfl h
theorem st71 {lo : Nat} {H : Heap} {R : Value → Heap → Prop} {a0 a1 a2 : Value} (h : wpS cp lo bd71 (bodyQ cf71 R) [a0, a1, a2, undef, undef, undef, undef, undef, undef, undef, undef] H) : Ev cp lo 71 [a0, a1, a2] H R := ev_of_wp (cf := cf71) rfl rfl h
theorem st72 {lo : Nat} {H : Heap} {R : Value → Heap → Prop} {a0 a1 a2 a3 a4 : Value} (h : wpS cp lo bd72 (bodyQ cf72 R) [a0, a1, a2, a3, a4, undef, undef, undef, undef, undef, undef, undef, undef, undef, undef, undef, undef, undef, undef, undef] H) : Ev cp lo 72 [a0, a1, a2, a3, a4] H R := ev_of_wp (cf := cf72) rfl rfl h
theorem st73 {lo : Nat} {H : Heap} {R : Value → Heap → Prop} {a0 a1 a2 : Value} (h : wpS cp lo bd73 (bodyQ cf73 R) [a0, a1, a2, undef, undef] H) : Ev cp lo 73 [a0, a1, a2] H R := ev_of_wp (cf := cf73) rfl rfl h
theorem st74 {lo : Nat} {H : Heap} {R : Value → Heap → Prop} {a0 a1 : Value} (h : wpS cp lo bd74 (bodyQ cf74 R) [a0, a1, undef] H) : Ev cp lo 74 [a0, a1] H R := ev_of_wp (cf := cf74) rfl rfl h
theorem st75 {lo : Nat} {H : Heap} {R : Value → Heap → Prop} {a0 a1 a2 a3 a4 : Value} (h : wpS cp lo bd75 (bodyQ cf75 R) [a0, a1, a2, a3, a4, undef, undef, undef, undef, undef, undef, undef, undef, undef, undef, undef, undef, undef, undef, undef, undef] H) : Ev cp lo 75 [a0, a1, a2, a3, a4] H R := ev_of_wp (cf := cf75) rfl rfl h
theorem st76 {lo : Nat} {H : Heap} {R : Value → Heap → Prop} {a0 a1 : Value} (h : wpS cp lo bd76 (bodyQ cf76 R) [a0, a1, undef, undef, undef] H) : Ev cp lo 76 [a0, a1] H R := ev_of_wp (cf := cf76) rfl rfl h
theorem st77 {lo : Nat} {H : Heap} {R : Value → Heap → Prop} {a0 : Value} (h : wpS cp lo bd77 (bodyQ cf77 R) [a0, undef, undef, undef] H) : Ev cp lo 77 [a0] H R := ev_of_wp (cf := cf77) rfl rfl h
theorem st78 {lo : Nat} {H : Heap} {R : Value → Heap → Prop} {a0 : Value} (h : wpS cp lo bd78 (bodyQ cf78 R) [a0, undef, undef, undef, undef, undef, undef, undef, undef, undef, undef, undef, undef, undef, undef, undef, undef] H) : Ev cp lo 78 [a0] H R := ev_of_wp (cf := cf78) rfl rfl h
theorem st79 {lo : Nat} {H : Heap} {R : Value → Heap → Prop} {a0 : Value} (h : wpS cp lo bd79 (bodyQ cf79 R) [a0, undef, undef, undef, undef, undef] H) : Ev cp lo 79 [a0] H R := ev_of_wp (cf := cf79) rfl rfl h
theorem st80 {lo : Nat} {H : Heap} {R : Value → Heap → Prop} {a0 : Value} (h : wpS cp lo bd80 (bodyQ cf80 R) [a0, undef, undef, undef, undef, undef, undef, undef, undef, undef, undef, undef, undef, undef, undef, undef, undef, undef, undef, undef, undef, undef, undef] H) : Ev cp lo 80 [a0] H R := ev_of_wp (cf := cf80) rfl rfl h
theorem st81 {lo : Nat} {H : Heap} {R : Value → Heap → Prop} {a0 : Value} (h : wpS cp lo bd81 (bodyQ cf81 R) [a0, undef, undef, undef, undef, undef, undef, undef, undef, undef, undef, undef, undef, undef, undef, undef, undef, undef, undef, undef, undef, undef, undef, undef, undef, undef, undef, undef, undef, undef, undef, undef, undef, undef, undef, undef] H) : Ev cp lo 81 [a0] H R := ev_of_wp (cf := cf81) rfl rfl h
theorem st82 {lo : Nat} {H : Heap} {R : Value → Heap → Prop} {a0 : Value} (h : wpS cp lo bd82 (bodyQ cf82 R) [a0, undef, undef, undef, undef, undef] H) : Ev cp lo 82 [a0] H R := ev_of_wp (cf := cf82) rfl rfl h
theorem st83 {lo : Nat} {H : Heap} {R : Value → Heap → Prop} {a0 a1 : Value} (h : wpS cp lo bd83 (bodyQ cf83 R) [a0, a1, undef, undef, undef, undef, undef, undef, undef, undef, undef] H) : Ev cp lo 83 [a0, a1] H R := ev_of_wp (cf := cf83) rfl rfl h
theorem st84 {lo : Nat} {H : Heap} {R : Value → Heap → Prop} {a0 a1 a2 : Value} (h : wpS cp lo bd84 (bodyQ cf84 R) [a0, a1, a2, undef, undef, undef, undef, undef, undef, undef, undef] H) : Ev cp lo 84 [a0, a1, a2] H R := ev_of_wp (cf := cf84) rfl rfl h
theorem st85 {lo : Nat} {H : Heap} {R : Value → Heap → Prop} {a0 a1 a2 a3 : Value} (h : wpS cp lo bd85 (bodyQ cf85 R) [a0, a1, a2, a3, undef, undef, undef, undef, undef, undef, undef, undef, undef, undef, undef, undef, undef, undef, undef, undef, undef, undef, undef, undef, undef, undef, undef, undef, undef, undef, undef, undef, undef, undef, undef, undef, undef, undef, undef] H) : Ev cp lo 85 [a0, a1, a2, a3] H R := ev_of_wp (cf := cf85) rfl rfl h
theorem st86 {lo : Nat} {H : Heap} {R : Value → Heap → Prop} {a0 : Value} (h : wpS cp lo bd86 (bodyQ cf86 R) [a0, undef, undef, undef] H) : Ev cp lo 86 [a0] H R := ev_of_wp (cf := cf86) rfl rfl h
theorem st87 {lo : Nat} {H : Heap} {R : Value → Heap → Prop} {a0 a1 : Value} (h : wpS cp lo bd87 (bodyQ cf87 R) [a0, a1, undef, undef, undef, undef, undef, undef, undef] H) : Ev cp lo 87 [a0, a1] H R := ev_of_wp (cf := cf87) rfl rfl h
theorem st88 {lo : Nat} {H : Heap} {R : Value → Heap → Prop} {a0 : Value} (h : wpS cp lo bd88 (bodyQ cf88 R) [a0, undef, undef, undef, undef, undef] H) : Ev cp lo 88 [a0] H R := ev_of_wp (cf := cf88) rfl rfl h
theorem st89 {lo : Nat} {H : Heap} {R : Value → Heap → Prop} {a0 a1 a2 : Value} (h : wpS cp lo bd89 (bodyQ cf89 R) [a0, a1, a2, undef, undef, undef] H) : Ev cp lo 89 [a0, a1, a2] H R := ev_of_wp (cf := cf89) rfl rfl h
theorem st90 {lo : Nat} {H : Heap} {R : Value → Heap → Prop} {a0 a1 a2 : Value} (h : wpS cp lo bd90 (bodyQ cf90 R) [a0, a1, a2, undef, undef] H) : Ev cp lo 90 [a0, a1, a2] H R := ev_of_wp (cf := cf90) rfl rfl h
theorem st91 {lo : Nat} {H : Heap} {R : Value → Heap → Prop} {a0 a1 a2 : Value} (h : wpS cp lo bd91 (bodyQ cf91 R) [a0, a1, a2, undef, undef] H) : Ev cp lo 91 [a0, a1, a2] H R := ev_of_wp (cf := cf91) rfl rfl h
theorem st92 {lo : Nat} {H : Heap} {R : Value → Heap → Prop} {a0 : Value} (h : wpS cp lo bd92 (bodyQ cf92 R) [a0, undef, undef, undef, undef, undef] H) : Ev cp lo 92 [a0] H R := ev_of_wp (cf := cf92) rfl rfl h
theorem st93 {lo : Nat} {H : Heap} {R : Value → Heap → Prop} {a0 a1 a2 : Value} (h : wpS cp lo bd93 (bodyQ cf93 R) [a0, a1, a2, undef, undef, undef, undef, undef] H) : Ev cp lo 93 [a0, a1, a2] H R := ev_of_wp (cf := cf93) rfl rfl h
theorem st94 {lo : Nat} {H : Heap} {R : Value → Heap → Prop} {a0 a1 a2 : Value} (h : wpS cp lo bd94 (bodyQ cf94 R) [a0, a1, a2, undef, undef] H) : Ev cp lo 94 [a0, a1, a2] H R := ev_of_wp (cf := cf94) rfl rfl h
theorem st95 {lo : Nat} {H : Heap} {R : Value → Heap → Prop} {a0 a1 a2 : Value} (h : wpS cp lo bd95 (bodyQ cf95 R) [a0, a1, a2, undef, undef] H) : Ev cp lo 95 [a0, a1, a2] H R := ev_of_wp (cf := cf95) rfl rfl h
theorem st96 {lo : Nat} {H : Heap} {R : Value → Heap → Prop} {a0 a1 : Value} (h : wpS cp lo bd96 (bodyQ cf96 R) [a0, a1, undef] H) : Ev cp lo 96 [a0, a1] H R := ev_of_wp (cf := cf96) rfl rfl h
theorem st97 {lo : Nat} {H : Heap} {R : Value → Heap → Prop} {a0 a1 a2 a3 : Value} (h : wpS cp lo bd97 (bodyQ cf97 R) [a0, a1, a2, a3, undef, undef, undef, undef, undef, undef, undef, undef, undef, undef, undef, undef, undef, undef, undef, undef] H) : Ev cp lo 97 [a0, a1, a2, a3] H R := ev_of_wp (cf := cf97) rfl rfl h
theorem st98 {lo : Nat} {H : Heap} {R : Value → Heap → Prop} {a0 a1 a2 : Value} (h : wpS cp lo bd98 (bodyQ cf98 R) [a0, a1, a2, undef, undef, undef, undef, undef, undef, undef, undef] H) : Ev cp lo 98 [a0, a1, a2] H R := ev_of_wp (cf := cf98) rfl rfl h
theorem st99 {lo : Nat} {H : Heap} {R : Value → Heap → Prop} {a0 a1 : Value} (h : wpS cp lo bd99 (bodyQ cf99 R) [a0, a1, undef, undef, undef, undef, undef, undef, undef, undef] H) : Ev cp lo 99 [a0, a1] H R := ev_of_wp (cf := cf99) rfl rfl h
theorem st101 {lo : Nat} {H : Heap} {R : Value → Heap → Prop} {a0 : Value} (h : wpS cp lo bd101 (bodyQ cf101 R) [a0, undef] H) : Ev cp lo 101 [a0] H R := ev_of_wp (cf := cf101) rfl rfl h
theorem st102 {lo : Nat} {H : Heap} {R : Value → Heap → Prop} {a0 a1 : Value} (h : wpS cp lo bd102 (bodyQ cf102 R) [a0, a1, undef, undef, undef, undef, undef] H) : Ev cp lo 102 [a0, a1] H R := ev_of_wp (cf := cf102) rfl rfl h
theorem st103 {lo : Nat} {H : Heap} {R : Value → Heap → Prop} {a0 a1 : Value} (h : wpS cp lo bd103 (bodyQ cf103 R) [a0, a1, undef, undef, undef, undef, undef] H) : Ev cp lo 103 [a0, a1] H R := ev_of_wp (cf := cf103) rfl rfl h
end Go.Proofs.Ythejjplggcfjcaa
