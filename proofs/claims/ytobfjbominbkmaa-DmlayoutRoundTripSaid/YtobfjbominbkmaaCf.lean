/-
  The functions of this seat as the abstract machine has them (printed by a program), and that its compiler makes them of the given program.
-/
import Derived.Test.YtobfjbominbkmaaProg
import Derived.Test.YtobfjbominbkmaaAbs8
import Derived.KernelRfl
namespace Go.Proofs.Ytobfjbominbkmaa
open Go.Abs
/-- gosem.cut.init -/
def bd2 : Stm :=
  (.hv [] [] [] none (.call false) (.cons (.cst (.func (.func 1) #[] #[])) .nil))
def cf2 : CF := ⟨0, 0, [], bd2⟩
def tr2 : List Nat := []
/-- barscan/barscanlaw25.DmlayoutSizes -/
def bd3 : Stm :=
  (.seq (.sets [(2, (.cst (.bool false)))] [])
  (.seq (.seq (.hv [] [] [] (some 10) (.call false) (.cons (.cst (.func (.func 10) #[] #[])) .nil))
  (.sets [(3, (.var 10))] []))
  (.seq (.seq (.hv [] [] [] (some 11) (.call false) (.cons (.cst (.func (.func 11) #[] #[])) .nil))
  (.sets [(4, (.var 11))] []))
  (.seq (.cond (.node (.bin .neq) (.cons (.node .len (.cons (.var 3) .nil)) (.cons (.node .len (.cons (.var 4) .nil)) .nil)))
    (.seq (.sets [(2, (.cst (.bool false)))] [])
    .ret)
    .skip)
  (.seq (.seq (.sets [(13, (.cst (.int .i64 0))), (12, (.node .len (.cons (.var 3) .nil)))] [])
  (.block 0 (.loop
    (.seq (.cond (.node (.bin .lss) (.cons (.var 13) (.cons (.var 12) .nil)))
      .skip
      (.exit 0))
    (.seq (.block 1 (.seq (.sets [(5, (.var 13))] [])
    (.cond (.node (.eqA true [1, 1, 1, 1, 1, 1, 1]) (.cons (.node (.ld 7 true) (.cons (.node (.iAddr 7) (.cons (.var 3) (.cons (.var 5) .nil))) .nil)) (.cons (.node (.ld 7 true) (.cons (.node (.iAddr 7) (.cons (.var 4) (.cons (.var 5) .nil))) .nil)) .nil)))
      (.seq (.sets [(2, (.cst (.bool false)))] [])
      .ret)
      .skip)))
    (.sets [(13, (.node (.bin .add) (.cons (.var 13) (.cons (.cst (.int .i64 1)) .nil))))] []))))))
  (.seq (.seq (.hv [] [] [] (some 14) (.call false) (.cons (.cst (.func (.func 12) #[] #[])) (.cons (.var 0) (.cons (.var 1) .nil))))
  (.seq (.hv [(16, (.node (.ext 1) (.cons (.var 14) .nil))), (15, (.node (.ext 0) (.cons (.var 14) .nil)))] [] [] (some 6) (.alloc [(.int .i64 0), (.int .i64 0), (.int .i64 0), (.int .i64 0), (.int .i64 0), (.int .i64 0), (.int .i64 0)]) .nil)
  (.seq (.hv [] [] [] none (.st 7) (.cons (.var 6) (.cons (.var 15) .nil)))
  (.sets [(7, (.var 16))] []))))
  (.seq (.seq (.hv [] [] [] (some 17) (.call false) (.cons (.cst (.func (.func 13) #[] #[])) (.cons (.var 0) (.cons (.var 1) .nil))))
  (.seq (.hv [(19, (.node (.ext 1) (.cons (.var 17) .nil))), (18, (.node (.ext 0) (.cons (.var 17) .nil)))] [] [] (some 8) (.alloc [(.int .i64 0), (.int .i64 0), (.int .i64 0), (.int .i64 0), (.int .i64 0), (.int .i64 0), (.int .i64 0)]) .nil)
  (.seq (.hv [] [] [] none (.st 7) (.cons (.var 8) (.cons (.var 18) .nil)))
  (.sets [(9, (.var 19))] []))))
  (.seq (.seq (.hv [(20, (.pick (.node (.eqA false [1, 1, 1, 1, 1, 1, 1]) (.cons (.node (.ld 7 true) (.cons (.var 6) .nil)) (.cons (.node (.ld 7 true) (.cons (.var 8) .nil)) .nil))) (.node (.bin .eql) (.cons (.var 7) (.cons (.var 9) .nil))) (.cst (.bool false))))] [] [((.pick (.node (.eqA false [1, 1, 1, 1, 1, 1, 1]) (.cons (.node (.ld 7 true) (.cons (.var 6) .nil)) (.cons (.node (.ld 7 true) (.cons (.var 8) .nil)) .nil))) (.node (.bin .eql) (.cons (.var 7) (.cons (.var 9) .nil))) (.cst (.bool false))), true)] (some 21) (.call false) (.cons (.cst (.func (.func 14) #[] #[])) .nil))
  (.sets [(2, (.pick (.var 20) (.var 21) (.cst (.bool false))))] []))
  .ret))))))))
def cf3 : CF := ⟨2, 22, [(.var 2)], bd3⟩
def tr3 : List Nat := [0, 1, 4, 5, 6, 7, 8, 9, 10, 11, 12, 13, 20, 21, 37, 38, 39, 43, 44, 45, 54, 55]
/-- barscan/barscanlaw25.DmlayoutOrders -/
def bd4 : Stm :=
  (.seq (.sets [(2, (.cst (.bool false)))] [])
  (.seq (.seq (.hv [] [] [] (some 7) (.call false) (.cons (.cst (.func (.func 15) #[] #[])) (.cons (.var 0) (.cons (.var 1) .nil))))
  (.sets [(4, (.node (.ext 1) (.cons (.var 7) .nil))), (3, (.node (.ext 0) (.cons (.var 7) .nil)))] []))
  (.seq (.seq (.hv [] [] [] (some 8) (.call false) (.cons (.cst (.func (.func 16) #[] #[])) (.cons (.var 0) (.cons (.var 1) .nil))))
  (.sets [(6, (.node (.ext 1) (.cons (.var 8) .nil))), (5, (.node (.ext 0) (.cons (.var 8) .nil)))] []))
  (.seq (.seq (.hv [] [] [] (some 9) (.call false) (.cons (.cst (.func (.func 17) #[] #[])) (.cons (.var 3) (.cons (.var 5) .nil))))
  (.seq (.hv [(10, (.pick (.var 9) (.node (.bin .eql) (.cons (.var 4) (.cons (.var 6) .nil))) (.cst (.bool false))))] [] [((.pick (.var 9) (.node (.bin .eql) (.cons (.var 4) (.cons (.var 6) .nil))) (.cst (.bool false))), true)] (some 11) (.call false) (.cons (.cst (.func (.func 14) #[] #[])) .nil))
  (.sets [(2, (.pick (.var 10) (.var 11) (.cst (.bool false))))] [])))
  .ret))))
def cf4 : CF := ⟨2, 12, [(.var 2)], bd4⟩
def tr4 : List Nat := [0, 1, 4, 5, 6, 7, 8, 12, 18, 23, 29, 30]
/-- barscan/barscanlaw25.DmlayoutPlaces -/
def bd5 : Stm :=
  (.seq (.seq (.hv [] [] [] (some 2) .box (.cons (.var 1) .nil))
  (.sets [(3, (.cst (.bool false)))] []))
  (.seq (.seq (.hv [] [] [] (some 8) (.call false) (.cons (.cst (.func (.func 18) #[] #[])) (.cons (.var 0) (.cons (.node (.ld 7 true) (.cons (.var 2) .nil)) .nil))))
  (.seq (.hv [(10, (.node (.ext 1) (.cons (.var 8) .nil))), (9, (.node (.ext 0) (.cons (.var 8) .nil)))] [] [] (some 4) (.alloc [(.int .i64 0), (.int .i64 0), (.slice none 0 0)]) .nil)
  (.seq (.hv [] [] [] none (.st 3) (.cons (.var 4) (.cons (.var 9) .nil)))
  (.sets [(5, (.var 10))] []))))
  (.seq (.seq (.hv [] [] [] (some 11) (.call false) (.cons (.cst (.func (.func 19) #[] #[])) (.cons (.var 0) (.cons (.node (.ld 7 true) (.cons (.var 2) .nil)) .nil))))
  (.seq (.hv [(13, (.node (.ext 1) (.cons (.var 11) .nil))), (12, (.node (.ext 0) (.cons (.var 11) .nil)))] [] [] (some 6) (.alloc [(.int .i64 0), (.int .i64 0), (.slice none 0 0)]) .nil)
  (.seq (.hv [] [] [] none (.st 3) (.cons (.var 6) (.cons (.var 12) .nil)))
  (.sets [(7, (.var 13))] []))))
  (.seq (.seq (.hv [] [] [] (some 14) (.call false) (.cons (.cst (.func (.func 20) #[] #[])) (.cons (.node (.ld 3 true) (.cons (.var 4) .nil)) (.cons (.node (.ld 3 true) (.cons (.var 6) .nil)) .nil))))
  (.seq (.hv [(15, (.pick (.var 14) (.node (.bin .eql) (.cons (.var 5) (.cons (.var 7) .nil))) (.cst (.bool false))))] [] [((.pick (.var 14) (.node (.bin .eql) (.cons (.var 5) (.cons (.var 7) .nil))) (.cst (.bool false))), true)] (some 16) (.call false) (.cons (.cst (.func (.func 14) #[] #[])) .nil))
  (.sets [(3, (.pick (.var 15) (.var 16) (.cst (.bool false))))] [])))
  .ret))))
def cf5 : CF := ⟨2, 17, [(.var 3)], bd5⟩
def tr5 : List Nat := [0, 1, 3, 4, 5, 6, 7, 8, 12, 13, 14, 18, 19, 20, 23, 29, 30]
/-- barscan/barscanlaw25.DmlayoutBijection -/
def bd6 : Stm :=
  (.seq (.sets [(1, (.cst (.bool false)))] [])
  (.seq (.seq (.hv [] [] [] (some 12) (.call false) (.cons (.cst (.func (.func 10) #[] #[])) .nil))
  (.sets [(2, (.var 12))] []))
  (.seq (.cond (.node (.bin .eql) (.cons (.node .len (.cons (.var 2) .nil)) (.cons (.cst (.int .i64 0)) .nil)))
    (.seq (.sets [(1, (.cst (.bool false)))] [])
    .ret)
    .skip)
  (.seq (.seq (.hv [(13, (.node (.ld 7 true) (.cons (.node (.iAddr 7) (.cons (.var 2) (.cons (.node (.bin .rem) (.cons (.node (.cvt .i64) (.cons (.var 0) .nil)) (.cons (.node .len (.cons (.var 2) .nil)) .nil))) .nil))) .nil)))] [] [] (some 3) (.alloc [(.int .i64 0), (.int .i64 0), (.int .i64 0), (.int .i64 0), (.int .i64 0), (.int .i64 0), (.int .i64 0)]) .nil)
  (.hv [] [] [] none (.st 7) (.cons (.var 3) (.cons (.var 13) .nil))))
  (.seq (.seq (.hv [] [] [] (some 14) (.call false) (.cons (.cst (.func (.func 21) #[] #[])) (.cons (.node (.ld 7 true) (.cons (.var 3) .nil)) .nil)))
  (.sets [(5, (.node (.ext 1) (.cons (.var 14) .nil))), (4, (.node (.ext 0) (.cons (.var 14) .nil)))] []))
  (.seq (.sets [(6, (.node (.bin .mul) (.cons (.cst (.int .i64 8)) (.cons (.node (.bin .add) (.cons (.node (.ld 1 false) (.cons (.node (.fAddr 4) (.cons (.var 3) .nil)) .nil)) (.cons (.node (.ld 1 false) (.cons (.node (.fAddr 5) (.cons (.var 3) .nil)) .nil)) .nil))) .nil))))] [])
  (.seq (.seq (.hv [] [] [] (some 15) (.call false) (.cons (.cst (.func (.func 15) #[] #[])) (.cons (.var 4) (.cons (.var 5) .nil))))
  (.sets [(8, (.node (.ext 1) (.cons (.var 15) .nil))), (7, (.node (.ext 0) (.cons (.var 15) .nil)))] []))
  (.seq (.cond (.pick (.pick (.pick (.pick (.node (.bin .neq) (.cons (.var 8) (.cons (.cst (.int .i64 0)) .nil))) (.cst (.bool true)) (.node (.bin .neq) (.cons (.node .len (.cons (.var 7) .nil)) (.cons (.node (.bin .mul) (.cons (.var 4) (.cons (.var 5) .nil))) .nil)))) (.cst (.bool true)) (.node (.bin .lss) (.cons (.var 6) (.cons (.cst (.int .i64 0)) .nil)))) (.cst (.bool true)) (.node (.bin .gtr) (.cons (.var 6) (.cons (.node .len (.cons (.var 7) .nil)) .nil)))) (.cst (.bool true)) (.pick (.node (.bin .neq) (.cons (.node (.bin .sub) (.cons (.node .len (.cons (.var 7) .nil)) (.cons (.var 6) .nil))) (.cons (.cst (.int .i64 0)) .nil))) (.node (.bin .neq) (.cons (.node (.bin .sub) (.cons (.node .len (.cons (.var 7) .nil)) (.cons (.var 6) .nil))) (.cons (.cst (.int .i64 4)) .nil))) (.cst (.bool false))))
    (.seq (.sets [(1, (.cst (.bool false)))] [])
    .ret)
    .skip)
  (.seq (.seq (.hv [] [] [] (some 16) (.mkSl [(.bool false)]) (.cons (.var 6) (.cons (.var 6) .nil)))
  (.sets [(9, (.var 16))] []))
  (.seq (.sets [(10, (.cst (.int .i64 0)))] [])
  (.seq (.seq (.sets [(19, (.cst (.int .i64 0))), (18, (.node .len (.cons (.var 7) .nil))), (17, (.var 7))] [])
  (.block 0 (.loop
    (.seq (.cond (.node (.bin .lss) (.cons (.var 19) (.cons (.var 18) .nil)))
      .skip
      (.exit 0))
    (.seq (.block 1 (.seq (.sets [(11, (.node (.ld 1 false) (.cons (.node (.iAddr 1) (.cons (.var 17) (.cons (.var 19) .nil))) .nil)))] [])
    (.block 2 (.cond (.node (.bin .eql) (.cons (.var 11) (.cons (.cst (.int .i64 (-1))) .nil)))
      (.sets [(10, (.node (.bin .add) (.cons (.var 10) (.cons (.cst (.int .i64 1)) .nil))))] [])
      (.cond (.pick (.pick (.node (.bin .lss) (.cons (.var 11) (.cons (.cst (.int .i64 0)) .nil))) (.cst (.bool true)) (.node (.bin .geq) (.cons (.var 11) (.cons (.var 6) .nil)))) (.cst (.bool true)) (.node (.ld 1 false) (.cons (.node (.iAddr 1) (.cons (.var 9) (.cons (.var 11) .nil))) .nil)))
        (.seq (.sets [(1, (.cst (.bool false)))] [])
        .ret)
        (.hv [] [] [] none (.st 1) (.cons (.node (.iAddr 1) (.cons (.var 9) (.cons (.var 11) .nil))) (.cons (.cst (.bool true)) .nil))))))))
    (.sets [(19, (.node (.bin .add) (.cons (.var 19) (.cons (.cst (.int .i64 1)) .nil))))] []))))))
  (.seq (.seq (.hv [(20, (.node (.bin .eql) (.cons (.var 10) (.cons (.node (.bin .sub) (.cons (.node .len (.cons (.var 7) .nil)) (.cons (.var 6) .nil))) .nil))))] [] [((.node (.bin .eql) (.cons (.var 10) (.cons (.node (.bin .sub) (.cons (.node .len (.cons (.var 7) .nil)) (.cons (.var 6) .nil))) .nil))), true)] (some 21) (.call false) (.cons (.cst (.func (.func 14) #[] #[])) .nil))
  (.sets [(1, (.pick (.var 20) (.var 21) (.cst (.bool false))))] []))
  .ret))))))))))))
def cf6 : CF := ⟨1, 22, [(.var 1)], bd6⟩
def tr6 : List Nat := [0, 2, 3, 4, 5, 6, 7, 8, 9, 10, 11, 13, 14, 25, 28, 40, 78, 79, 80, 81, 114, 115]
/-- barscan/barscanlaw25.DmlayoutFits -/
def bd7 : Stm :=
  (.seq (.sets [(2, (.cst (.bool false)))] [])
  (.seq (.seq (.hv [] [] [] (some 8) (.call false) (.cons (.cst (.func (.func 12) #[] #[])) (.cons (.var 0) (.cons (.var 1) .nil))))
  (.seq (.hv [(10, (.node (.ext 1) (.cons (.var 8) .nil))), (9, (.node (.ext 0) (.cons (.var 8) .nil)))] [] [] (some 3) (.alloc [(.int .i64 0), (.int .i64 0), (.int .i64 0), (.int .i64 0), (.int .i64 0), (.int .i64 0), (.int .i64 0)]) .nil)
  (.seq (.hv [] [] [] none (.st 7) (.cons (.var 3) (.cons (.var 9) .nil)))
  (.sets [(4, (.var 10))] []))))
  (.seq (.cond (.pick (.node (.bin .eql) (.cons (.var 4) (.cons (.cst (.int .i64 0)) .nil))) (.pick (.node (.bin .lss) (.cons (.node (.ld 1 false) (.cons (.node (.fAddr 4) (.cons (.var 3) .nil)) .nil)) (.cons (.var 0) .nil))) (.cst (.bool true)) (.pick (.var 1) (.node (.bin .neq) (.cons (.node (.ld 1 false) (.cons (.node (.fAddr 0) (.cons (.var 3) .nil)) .nil)) (.cons (.node (.ld 1 false) (.cons (.node (.fAddr 1) (.cons (.var 3) .nil)) .nil)) .nil))) (.cst (.bool false)))) (.cst (.bool false)))
    (.seq (.sets [(2, (.cst (.bool false)))] [])
    .ret)
    .skip)
  (.seq (.sets [(5, (.cst (.bool false)))] [])
  (.seq (.seq (.seq (.hv [] [] [] (some 11) (.call false) (.cons (.cst (.func (.func 10) #[] #[])) .nil))
  (.sets [(13, (.cst (.int .i64 0))), (12, (.node .len (.cons (.var 11) .nil)))] []))
  (.block 0 (.loop
    (.seq (.cond (.node (.bin .lss) (.cons (.var 13) (.cons (.var 12) .nil)))
      .skip
      (.exit 0))
    (.seq (.block 1 (.seq (.seq (.hv [(14, (.node (.ld 7 true) (.cons (.node (.iAddr 7) (.cons (.var 11) (.cons (.var 13) .nil))) .nil)))] [] [] (some 6) (.alloc [(.int .i64 0), (.int .i64 0), (.int .i64 0), (.int .i64 0), (.int .i64 0), (.int .i64 0), (.int .i64 0)]) .nil)
    (.hv [] [] [] none (.st 7) (.cons (.var 6) (.cons (.var 14) .nil))))
    (.seq (.sets [(7, (.pick (.pick (.node (.bin .geq) (.cons (.var 0) (.cons (.cst (.int .i64 1)) .nil))) (.node (.bin .geq) (.cons (.node (.ld 1 false) (.cons (.node (.fAddr 4) (.cons (.var 6) .nil)) .nil)) (.cons (.var 0) .nil))) (.cst (.bool false))) (.pick (.node (.bin .eql) (.cons (.node (.ld 1 false) (.cons (.node (.fAddr 0) (.cons (.var 6) .nil)) .nil)) (.cons (.node (.ld 1 false) (.cons (.node (.fAddr 1) (.cons (.var 6) .nil)) .nil)) .nil))) (.cst (.bool true)) (.node (.un .not) (.cons (.var 1) .nil))) (.cst (.bool false))))] [])
    (.seq (.cond (.pick (.var 7) (.pick (.node (.bin .neq) (.cons (.var 4) (.cons (.cst (.int .i64 0)) .nil))) (.cst (.bool true)) (.node (.bin .lss) (.cons (.node (.ld 1 false) (.cons (.node (.fAddr 4) (.cons (.var 6) .nil)) .nil)) (.cons (.node (.ld 1 false) (.cons (.node (.fAddr 4) (.cons (.var 3) .nil)) .nil)) .nil)))) (.cst (.bool false)))
      (.seq (.sets [(2, (.cst (.bool false)))] [])
      .ret)
      .skip)
    (.sets [(5, (.pick (.var 5) (.cst (.bool true)) (.node (.eqA false [1, 1, 1, 1, 1, 1, 1]) (.cons (.node (.ld 7 true) (.cons (.var 6) .nil)) (.cons (.node (.ld 7 true) (.cons (.var 3) .nil)) .nil)))))] [])))))
    (.sets [(13, (.node (.bin .add) (.cons (.var 13) (.cons (.cst (.int .i64 1)) .nil))))] []))))))
  (.seq (.seq (.hv [(15, (.pick (.pick (.var 5) (.cst (.bool true)) (.pick (.node (.bin .eql) (.cons (.var 4) (.cons (.cst (.int .i64 3)) .nil))) (.node (.bin .lss) (.cons (.var 0) (.cons (.cst (.int .i64 1)) .nil))) (.cst (.bool false)))) (.cst (.bool true)) (.pick (.node (.bin .eql) (.cons (.var 4) (.cons (.cst (.int .i64 16)) .nil))) (.node (.bin .gtr) (.cons (.var 0) (.cons (.cst (.int .i64 1558)) .nil))) (.cst (.bool false)))))] [] [((.pick (.pick (.var 5) (.cst (.bool true)) (.pick (.node (.bin .eql) (.cons (.var 4) (.cons (.cst (.int .i64 3)) .nil))) (.node (.bin .lss) (.cons (.var 0) (.cons (.cst (.int .i64 1)) .nil))) (.cst (.bool false)))) (.cst (.bool true)) (.pick (.node (.bin .eql) (.cons (.var 4) (.cons (.cst (.int .i64 16)) .nil))) (.node (.bin .gtr) (.cons (.var 0) (.cons (.cst (.int .i64 1558)) .nil))) (.cst (.bool false)))), true)] (some 16) (.call false) (.cons (.cst (.func (.func 14) #[] #[])) .nil))
  (.sets [(2, (.pick (.var 15) (.var 16) (.cst (.bool false))))] []))
  .ret))))))
def cf7 : CF := ⟨2, 17, [(.var 2)], bd7⟩
def tr7 : List Nat := [0, 1, 4, 5, 6, 7, 9, 10, 14, 15, 16, 35, 36, 37, 40, 96, 97]
/-- barscan/barscanlaw25.DmlayoutExtracts -/
def bd8 : Stm :=
  (.seq (.seq (.hv [] [] [] (some 1) .box (.cons (.var 0) .nil))
  (.sets [(2, (.cst (.bool false)))] []))
  (.seq (.cond (.node (.bin .gtr) (.cons (.node .len (.cons (.node (.ld 1 false) (.cons (.node (.fAddr 2) (.cons (.var 1) .nil)) .nil)) .nil)) (.cons (.cst (.int .i64 40000)) .nil)))
    (.seq (.seq (.hv [] [] [] (some 9) (.call false) (.cons (.cst (.func (.func 14) #[] #[])) .nil))
    (.sets [(2, (.var 9))] []))
    .ret)
    .skip)
  (.seq (.seq (.hv [] [] [] (some 10) (.call false) (.cons (.cst (.func (.func 22) #[] #[])) (.cons (.node (.ld 3 true) (.cons (.var 1) .nil)) .nil)))
  (.seq (.hv [(13, (.node (.ext 2) (.cons (.var 10) .nil))), (12, (.node (.ext 1) (.cons (.var 10) .nil))), (11, (.node (.ext 0) (.cons (.var 10) .nil)))] [] [] (some 4) (.alloc [(.int .i64 0), (.int .i64 0), (.int .i64 0), (.int .i64 0), (.int .i64 0), (.int .i64 0), (.int .i64 0)]) .nil)
  (.seq (.hv [(3, (.var 11))] [] [] none (.st 7) (.cons (.var 4) (.cons (.var 12) .nil)))
  (.sets [(5, (.var 13))] []))))
  (.seq (.seq (.hv [] [] [] (some 14) (.call false) (.cons (.cst (.func (.func 23) #[] #[])) (.cons (.node (.ld 3 true) (.cons (.var 1) .nil)) .nil)))
  (.seq (.hv [(17, (.node (.ext 2) (.cons (.var 14) .nil))), (16, (.node (.ext 1) (.cons (.var 14) .nil))), (15, (.node (.ext 0) (.cons (.var 14) .nil)))] [] [] (some 7) (.alloc [(.int .i64 0), (.int .i64 0), (.int .i64 0), (.int .i64 0), (.int .i64 0), (.int .i64 0), (.int .i64 0)]) .nil)
  (.seq (.hv [(6, (.var 15))] [] [] none (.st 7) (.cons (.var 7) (.cons (.var 16) .nil)))
  (.sets [(8, (.var 17))] []))))
  (.seq (.seq (.hv [] [] [] (some 18) (.call false) (.cons (.cst (.func (.func 17) #[] #[])) (.cons (.var 3) (.cons (.var 6) .nil))))
  (.seq (.hv [(19, (.pick (.pick (.var 18) (.node (.eqA false [1, 1, 1, 1, 1, 1, 1]) (.cons (.node (.ld 7 true) (.cons (.var 4) .nil)) (.cons (.node (.ld 7 true) (.cons (.var 7) .nil)) .nil))) (.cst (.bool false))) (.node (.bin .eql) (.cons (.var 5) (.cons (.var 8) .nil))) (.cst (.bool false))))] [] [((.pick (.pick (.var 18) (.node (.eqA false [1, 1, 1, 1, 1, 1, 1]) (.cons (.node (.ld 7 true) (.cons (.var 4) .nil)) (.cons (.node (.ld 7 true) (.cons (.var 7) .nil)) .nil))) (.cst (.bool false))) (.node (.bin .eql) (.cons (.var 5) (.cons (.var 8) .nil))) (.cst (.bool false))), true)] (some 20) (.call false) (.cons (.cst (.func (.func 14) #[] #[])) .nil))
  (.sets [(2, (.pick (.var 19) (.var 20) (.cst (.bool false))))] [])))
  .ret)))))
def cf8 : CF := ⟨1, 21, [(.var 2)], bd8⟩
def tr8 : List Nat := [0, 1, 2, 3, 4, 5, 6, 7, 8, 13, 16, 17, 18, 19, 22, 23, 24, 25, 28, 39, 40]
/-- barscan/barscanlaw25.DmlayoutRoundTrip -/
def bd9 : Stm :=
  (.seq (.seq (.hv [] [] [] (some 2) .box (.cons (.var 1) .nil))
  (.sets [(3, (.cst (.bool false)))] []))
  (.seq (.seq (.hv [] [] [] (some 9) (.call false) (.cons (.cst (.func (.func 18) #[] #[])) (.cons (.var 0) (.cons (.node (.ld 7 true) (.cons (.var 2) .nil)) .nil))))
  (.seq (.hv [(11, (.node (.ext 1) (.cons (.var 9) .nil))), (10, (.node (.ext 0) (.cons (.var 9) .nil)))] [] [] (some 4) (.alloc [(.int .i64 0), (.int .i64 0), (.slice none 0 0)]) .nil)
  (.seq (.hv [] [] [] none (.st 3) (.cons (.var 4) (.cons (.var 10) .nil)))
  (.sets [(5, (.var 11))] []))))
  (.seq (.cond (.node (.bin .neq) (.cons (.var 5) (.cons (.cst (.int .i64 0)) .nil)))
    (.seq (.seq (.hv [(12, (.node (.bin .eql) (.cons (.node .len (.cons (.node (.ld 1 false) (.cons (.node (.fAddr 2) (.cons (.var 4) .nil)) .nil)) .nil)) (.cons (.cst (.int .i64 0)) .nil))))] [] [((.node (.bin .eql) (.cons (.node .len (.cons (.node (.ld 1 false) (.cons (.node (.fAddr 2) (.cons (.var 4) .nil)) .nil)) .nil)) (.cons (.cst (.int .i64 0)) .nil))), true)] (some 13) (.call false) (.cons (.cst (.func (.func 14) #[] #[])) .nil))
    (.sets [(3, (.pick (.var 12) (.var 13) (.cst (.bool false))))] []))
    .ret)
    .skip)
  (.seq (.seq (.hv [] [] [] (some 14) (.call false) (.cons (.cst (.func (.func 22) #[] #[])) (.cons (.node (.ld 3 true) (.cons (.var 4) .nil)) .nil)))
  (.seq (.hv [(17, (.node (.ext 2) (.cons (.var 14) .nil))), (16, (.node (.ext 1) (.cons (.var 14) .nil))), (15, (.node (.ext 0) (.cons (.var 14) .nil)))] [] [] (some 7) (.alloc [(.int .i64 0), (.int .i64 0), (.int .i64 0), (.int .i64 0), (.int .i64 0), (.int .i64 0), (.int .i64 0)]) .nil)
  (.seq (.hv [(6, (.var 15))] [] [] none (.st 7) (.cons (.var 7) (.cons (.var 16) .nil)))
  (.sets [(8, (.var 17))] []))))
  (.seq (.seq (.hv [(18, (.node (.bin .eql) (.cons (.var 8) (.cons (.cst (.int .i64 0)) .nil))))] [] [((.node (.bin .eql) (.cons (.var 8) (.cons (.cst (.int .i64 0)) .nil))), true)] (some 19) (.call false) (.cons (.cst (.func (.func 17) #[] #[])) (.cons (.var 6) (.cons (.var 0) .nil))))
  (.seq (.hv [(20, (.pick (.pick (.pick (.pick (.var 18) (.var 19) (.cst (.bool false))) (.node (.eqA false [1, 1, 1, 1, 1, 1, 1]) (.cons (.node (.ld 7 true) (.cons (.var 7) .nil)) (.cons (.node (.ld 7 true) (.cons (.var 2) .nil)) .nil))) (.cst (.bool false))) (.node (.bin .eql) (.cons (.node (.ld 1 false) (.cons (.node (.fAddr 0) (.cons (.var 4) .nil)) .nil)) (.cons (.node (.ld 1 false) (.cons (.node (.fAddr 1) (.cons (.var 2) .nil)) .nil)) .nil))) (.cst (.bool false))) (.node (.bin .eql) (.cons (.node (.ld 1 false) (.cons (.node (.fAddr 1) (.cons (.var 4) .nil)) .nil)) (.cons (.node (.ld 1 false) (.cons (.node (.fAddr 0) (.cons (.var 2) .nil)) .nil)) .nil))) (.cst (.bool false))))] [] [((.pick (.pick (.pick (.pick (.var 18) (.var 19) (.cst (.bool false))) (.node (.eqA false [1, 1, 1, 1, 1, 1, 1]) (.cons (.node (.ld 7 true) (.cons (.var 7) .nil)) (.cons (.node (.ld 7 true) (.cons (.var 2) .nil)) .nil))) (.cst (.bool false))) (.node (.bin .eql) (.cons (.node (.ld 1 false) (.cons (.node (.fAddr 0) (.cons (.var 4) .nil)) .nil)) (.cons (.node (.ld 1 false) (.cons (.node (.fAddr 1) (.cons (.var 2) .nil)) .nil)) .nil))) (.cst (.bool false))) (.node (.bin .eql) (.cons (.node (.ld 1 false) (.cons (.node (.fAddr 1) (.cons (.var 4) .nil)) .nil)) (.cons (.node (.ld 1 false) (.cons (.node (.fAddr 0) (.cons (.var 2) .nil)) .nil)) .nil))) (.cst (.bool false))), true)] (some 21) (.call false) (.cons (.cst (.func (.func 14) #[] #[])) .nil))
  (.sets [(3, (.pick (.var 20) (.var 21) (.cst (.bool false))))] [])))
  .ret)))))
def cf9 : CF := ⟨2, 22, [(.var 3)], bd9⟩
def tr9 : List Nat := [0, 1, 3, 4, 5, 6, 7, 8, 9, 13, 14, 15, 22, 23, 27, 28, 29, 30, 33, 36, 57, 58]
/-- barscan/dmlayout.Sizes -/
def bd10 : Stm :=
  (.seq (.sets [(0, (.cst (.slice none 0 0)))] [])
  (.seq (.seq (.hv [(5, (.node (.build [(.int .i64 0), (.int .i64 0), (.int .i64 0), (.int .i64 0), (.int .i64 0), (.int .i64 0), (.int .i64 0), (.int .i64 0), (.int .i64 0), (.int .i64 0), (.int .i64 0), (.int .i64 0), (.int .i64 0), (.int .i64 0), (.int .i64 0), (.int .i64 0), (.int .i64 0), (.int .i64 0), (.int .i64 0), (.int .i64 0), (.int .i64 0), (.int .i64 0), (.int .i64 0), (.int .i64 0), (.int .i64 0), (.int .i64 0), (.int .i64 0), (.int .i64 0), (.int .i64 0), (.int .i64 0), (.int .i64 0), (.int .i64 0), (.int .i64 0), (.int .i64 0), (.int .i64 0), (.int .i64 0), (.int .i64 0), (.int .i64 0), (.int .i64 0), (.int .i64 0), (.int .i64 0), (.int .i64 0), (.int .i64 0), (.int .i64 0), (.int .i64 0), (.int .i64 0), (.int .i64 0), (.int .i64 0), (.int .i64 0), (.int .i64 0), (.int .i64 0), (.int .i64 0), (.int .i64 0), (.int .i64 0), (.int .i64 0), (.int .i64 0), (.int .i64 0), (.int .i64 0), (.int .i64 0), (.int .i64 0), (.int .i64 0), (.int .i64 0), (.int .i64 0), (.int .i64 0), (.int .i64 0), (.int .i64 0), (.int .i64 0), (.int .i64 0), (.int .i64 0), (.int .i64 0), (.int .i64 0), (.int .i64 0), (.int .i64 0), (.int .i64 0), (.int .i64 0), (.int .i64 0), (.int .i64 0), (.int .i64 0), (.int .i64 0), (.int .i64 0), (.int .i64 0), (.int .i64 0), (.int .i64 0), (.int .i64 0), (.int .i64 0), (.int .i64 0), (.int .i64 0), (.int .i64 0), (.int .i64 0), (.int .i64 0), (.int .i64 0), (.int .i64 0), (.int .i64 0), (.int .i64 0), (.int .i64 0), (.int .i64 0), (.int .i64 0), (.int .i64 0), (.int .i64 0), (.int .i64 0), (.int .i64 0), (.int .i64 0), (.int .i64 0), (.int .i64 0), (.int .i64 0), (.int .i64 0), (.int .i64 0), (.int .i64 0), (.int .i64 0), (.int .i64 0), (.int .i64 0), (.int .i64 0), (.int .i64 0), (.int .i64 0), (.int .i64 0), (.int .i64 0), (.int .i64 0), (.int .i64 0), (.int .i64 0), (.int .i64 0), (.int .i64 0), (.int .i64 0), (.int .i64 0), (.int .i64 0), (.int .i64 0), (.int .i64 0), (.int .i64 0), (.int .i64 0), (.int .i64 0), (.int .i64 0), (.int .i64 0), (.int .i64 0), (.int .i64 0), (.int .i64 0), (.int .i64 0), (.int .i64 0), (.int .i64 0), (.int .i64 0), (.int .i64 0), (.int .i64 0), (.int .i64 0), (.int .i64 0), (.int .i64 0), (.int .i64 0), (.int .i64 0), (.int .i64 0), (.int .i64 0), (.int .i64 0), (.int .i64 0), (.int .i64 0), (.int .i64 0), (.int .i64 0), (.int .i64 0), (.int .i64 0), (.int .i64 0), (.int .i64 0), (.int .i64 0), (.int .i64 0), (.int .i64 0), (.int .i64 0), (.int .i64 0), (.int .i64 0), (.int .i64 0), (.int .i64 0), (.int .i64 0), (.int .i64 0), (.int .i64 0), (.int .i64 0), (.int .i64 0), (.int .i64 0), (.int .i64 0), (.int .i64 0), (.int .i64 0), (.int .i64 0), (.int .i64 0), (.int .i64 0), (.int .i64 0), (.int .i64 0), (.int .i64 0), (.int .i64 0), (.int .i64 0), (.int .i64 0), (.int .i64 0), (.int .i64 0), (.int .i64 0), (.int .i64 0), (.int .i64 0), (.int .i64 0), (.int .i64 0), (.int .i64 0), (.int .i64 0), (.int .i64 0), (.int .i64 0), (.int .i64 0), (.int .i64 0), (.int .i64 0), (.int .i64 0), (.int .i64 0), (.int .i64 0), (.int .i64 0), (.int .i64 0), (.int .i64 0), (.int .i64 0), (.int .i64 0), (.int .i64 0), (.int .i64 0), (.int .i64 0), (.int .i64 0), (.int .i64 0), (.int .i64 0)] [(0, 7), (7, 7), (14, 7), (21, 7), (28, 7), (35, 7), (42, 7), (49, 7), (56, 7), (63, 7), (70, 7), (77, 7), (84, 7), (91, 7), (98, 7), (105, 7), (112, 7), (119, 7), (126, 7), (133, 7), (140, 7), (147, 7), (154, 7), (161, 7), (168, 7), (175, 7), (182, 7), (189, 7), (196, 7), (203, 7)]) (.cons (.node (.build [(.int .i64 0), (.int .i64 0), (.int .i64 0), (.int .i64 0), (.int .i64 0), (.int .i64 0), (.int .i64 0)] [(0, 1), (1, 1), (2, 1), (3, 1), (4, 1), (5, 1), (6, 1)]) (.cons (.cst (.int .i64 10)) (.cons (.cst (.int .i64 10)) (.cons (.cst (.int .i64 8)) (.cons (.cst (.int .i64 8)) (.cons (.cst (.int .i64 3)) (.cons (.cst (.int .i64 5)) (.cons (.cst (.int .i64 1)) .nil)))))))) (.cons (.node (.build [(.int .i64 0), (.int .i64 0), (.int .i64 0), (.int .i64 0), (.int .i64 0), (.int .i64 0), (.int .i64 0)] [(0, 1), (1, 1), (2, 1), (3, 1), (4, 1), (5, 1), (6, 1)]) (.cons (.cst (.int .i64 12)) (.cons (.cst (.int .i64 12)) (.cons (.cst (.int .i64 10)) (.cons (.cst (.int .i64 10)) (.cons (.cst (.int .i64 5)) (.cons (.cst (.int .i64 7)) (.cons (.cst (.int .i64 1)) .nil)))))))) (.cons (.node (.build [(.int .i64 0), (.int .i64 0), (.int .i64 0), (.int .i64 0), (.int .i64 0), (.int .i64 0), (.int .i64 0)] [(0, 1), (1, 1), (2, 1), (3, 1), (4, 1), (5, 1), (6, 1)]) (.cons (.cst (.int .i64 14)) (.cons (.cst (.int .i64 14)) (.cons (.cst (.int .i64 12)) (.cons (.cst (.int .i64 12)) (.cons (.cst (.int .i64 8)) (.cons (.cst (.int .i64 10)) (.cons (.cst (.int .i64 1)) .nil)))))))) (.cons (.node (.build [(.int .i64 0), (.int .i64 0), (.int .i64 0), (.int .i64 0), (.int .i64 0), (.int .i64 0), (.int .i64 0)] [(0, 1), (1, 1), (2, 1), (3, 1), (4, 1), (5, 1), (6, 1)]) (.cons (.cst (.int .i64 16)) (.cons (.cst (.int .i64 16)) (.cons (.cst (.int .i64 14)) (.cons (.cst (.int .i64 14)) (.cons (.cst (.int .i64 12)) (.cons (.cst (.int .i64 12)) (.cons (.cst (.int .i64 1)) .nil)))))))) (.cons (.node (.build [(.int .i64 0), (.int .i64 0), (.int .i64 0), (.int .i64 0), (.int .i64 0), (.int .i64 0), (.int .i64 0)] [(0, 1), (1, 1), (2, 1), (3, 1), (4, 1), (5, 1), (6, 1)]) (.cons (.cst (.int .i64 18)) (.cons (.cst (.int .i64 18)) (.cons (.cst (.int .i64 16)) (.cons (.cst (.int .i64 16)) (.cons (.cst (.int .i64 18)) (.cons (.cst (.int .i64 14)) (.cons (.cst (.int .i64 1)) .nil)))))))) (.cons (.node (.build [(.int .i64 0), (.int .i64 0), (.int .i64 0), (.int .i64 0), (.int .i64 0), (.int .i64 0), (.int .i64 0)] [(0, 1), (1, 1), (2, 1), (3, 1), (4, 1), (5, 1), (6, 1)]) (.cons (.cst (.int .i64 20)) (.cons (.cst (.int .i64 20)) (.cons (.cst (.int .i64 18)) (.cons (.cst (.int .i64 18)) (.cons (.cst (.int .i64 22)) (.cons (.cst (.int .i64 18)) (.cons (.cst (.int .i64 1)) .nil)))))))) (.cons (.node (.build [(.int .i64 0), (.int .i64 0), (.int .i64 0), (.int .i64 0), (.int .i64 0), (.int .i64 0), (.int .i64 0)] [(0, 1), (1, 1), (2, 1), (3, 1), (4, 1), (5, 1), (6, 1)]) (.cons (.cst (.int .i64 22)) (.cons (.cst (.int .i64 22)) (.cons (.cst (.int .i64 20)) (.cons (.cst (.int .i64 20)) (.cons (.cst (.int .i64 30)) (.cons (.cst (.int .i64 20)) (.cons (.cst (.int .i64 1)) .nil)))))))) (.cons (.node (.build [(.int .i64 0), (.int .i64 0), (.int .i64 0), (.int .i64 0), (.int .i64 0), (.int .i64 0), (.int .i64 0)] [(0, 1), (1, 1), (2, 1), (3, 1), (4, 1), (5, 1), (6, 1)]) (.cons (.cst (.int .i64 24)) (.cons (.cst (.int .i64 24)) (.cons (.cst (.int .i64 22)) (.cons (.cst (.int .i64 22)) (.cons (.cst (.int .i64 36)) (.cons (.cst (.int .i64 24)) (.cons (.cst (.int .i64 1)) .nil)))))))) (.cons (.node (.build [(.int .i64 0), (.int .i64 0), (.int .i64 0), (.int .i64 0), (.int .i64 0), (.int .i64 0), (.int .i64 0)] [(0, 1), (1, 1), (2, 1), (3, 1), (4, 1), (5, 1), (6, 1)]) (.cons (.cst (.int .i64 26)) (.cons (.cst (.int .i64 26)) (.cons (.cst (.int .i64 24)) (.cons (.cst (.int .i64 24)) (.cons (.cst (.int .i64 44)) (.cons (.cst (.int .i64 28)) (.cons (.cst (.int .i64 1)) .nil)))))))) (.cons (.node (.build [(.int .i64 0), (.int .i64 0), (.int .i64 0), (.int .i64 0), (.int .i64 0), (.int .i64 0), (.int .i64 0)] [(0, 1), (1, 1), (2, 1), (3, 1), (4, 1), (5, 1), (6, 1)]) (.cons (.cst (.int .i64 32)) (.cons (.cst (.int .i64 32)) (.cons (.cst (.int .i64 14)) (.cons (.cst (.int .i64 14)) (.cons (.cst (.int .i64 62)) (.cons (.cst (.int .i64 36)) (.cons (.cst (.int .i64 1)) .nil)))))))) (.cons (.node (.build [(.int .i64 0), (.int .i64 0), (.int .i64 0), (.int .i64 0), (.int .i64 0), (.int .i64 0), (.int .i64 0)] [(0, 1), (1, 1), (2, 1), (3, 1), (4, 1), (5, 1), (6, 1)]) (.cons (.cst (.int .i64 36)) (.cons (.cst (.int .i64 36)) (.cons (.cst (.int .i64 16)) (.cons (.cst (.int .i64 16)) (.cons (.cst (.int .i64 86)) (.cons (.cst (.int .i64 42)) (.cons (.cst (.int .i64 1)) .nil)))))))) (.cons (.node (.build [(.int .i64 0), (.int .i64 0), (.int .i64 0), (.int .i64 0), (.int .i64 0), (.int .i64 0), (.int .i64 0)] [(0, 1), (1, 1), (2, 1), (3, 1), (4, 1), (5, 1), (6, 1)]) (.cons (.cst (.int .i64 40)) (.cons (.cst (.int .i64 40)) (.cons (.cst (.int .i64 18)) (.cons (.cst (.int .i64 18)) (.cons (.cst (.int .i64 114)) (.cons (.cst (.int .i64 48)) (.cons (.cst (.int .i64 1)) .nil)))))))) (.cons (.node (.build [(.int .i64 0), (.int .i64 0), (.int .i64 0), (.int .i64 0), (.int .i64 0), (.int .i64 0), (.int .i64 0)] [(0, 1), (1, 1), (2, 1), (3, 1), (4, 1), (5, 1), (6, 1)]) (.cons (.cst (.int .i64 44)) (.cons (.cst (.int .i64 44)) (.cons (.cst (.int .i64 20)) (.cons (.cst (.int .i64 20)) (.cons (.cst (.int .i64 144)) (.cons (.cst (.int .i64 56)) (.cons (.cst (.int .i64 1)) .nil)))))))) (.cons (.node (.build [(.int .i64 0), (.int .i64 0), (.int .i64 0), (.int .i64 0), (.int .i64 0), (.int .i64 0), (.int .i64 0)] [(0, 1), (1, 1), (2, 1), (3, 1), (4, 1), (5, 1), (6, 1)]) (.cons (.cst (.int .i64 48)) (.cons (.cst (.int .i64 48)) (.cons (.cst (.int .i64 22)) (.cons (.cst (.int .i64 22)) (.cons (.cst (.int .i64 174)) (.cons (.cst (.int .i64 68)) (.cons (.cst (.int .i64 1)) .nil)))))))) (.cons (.node (.build [(.int .i64 0), (.int .i64 0), (.int .i64 0), (.int .i64 0), (.int .i64 0), (.int .i64 0), (.int .i64 0)] [(0, 1), (1, 1), (2, 1), (3, 1), (4, 1), (5, 1), (6, 1)]) (.cons (.cst (.int .i64 52)) (.cons (.cst (.int .i64 52)) (.cons (.cst (.int .i64 24)) (.cons (.cst (.int .i64 24)) (.cons (.cst (.int .i64 204)) (.cons (.cst (.int .i64 84)) (.cons (.cst (.int .i64 2)) .nil)))))))) (.cons (.node (.build [(.int .i64 0), (.int .i64 0), (.int .i64 0), (.int .i64 0), (.int .i64 0), (.int .i64 0), (.int .i64 0)] [(0, 1), (1, 1), (2, 1), (3, 1), (4, 1), (5, 1), (6, 1)]) (.cons (.cst (.int .i64 64)) (.cons (.cst (.int .i64 64)) (.cons (.cst (.int .i64 14)) (.cons (.cst (.int .i64 14)) (.cons (.cst (.int .i64 280)) (.cons (.cst (.int .i64 112)) (.cons (.cst (.int .i64 2)) .nil)))))))) (.cons (.node (.build [(.int .i64 0), (.int .i64 0), (.int .i64 0), (.int .i64 0), (.int .i64 0), (.int .i64 0), (.int .i64 0)] [(0, 1), (1, 1), (2, 1), (3, 1), (4, 1), (5, 1), (6, 1)]) (.cons (.cst (.int .i64 72)) (.cons (.cst (.int .i64 72)) (.cons (.cst (.int .i64 16)) (.cons (.cst (.int .i64 16)) (.cons (.cst (.int .i64 368)) (.cons (.cst (.int .i64 144)) (.cons (.cst (.int .i64 4)) .nil)))))))) (.cons (.node (.build [(.int .i64 0), (.int .i64 0), (.int .i64 0), (.int .i64 0), (.int .i64 0), (.int .i64 0), (.int .i64 0)] [(0, 1), (1, 1), (2, 1), (3, 1), (4, 1), (5, 1), (6, 1)]) (.cons (.cst (.int .i64 80)) (.cons (.cst (.int .i64 80)) (.cons (.cst (.int .i64 18)) (.cons (.cst (.int .i64 18)) (.cons (.cst (.int .i64 456)) (.cons (.cst (.int .i64 192)) (.cons (.cst (.int .i64 4)) .nil)))))))) (.cons (.node (.build [(.int .i64 0), (.int .i64 0), (.int .i64 0), (.int .i64 0), (.int .i64 0), (.int .i64 0), (.int .i64 0)] [(0, 1), (1, 1), (2, 1), (3, 1), (4, 1), (5, 1), (6, 1)]) (.cons (.cst (.int .i64 88)) (.cons (.cst (.int .i64 88)) (.cons (.cst (.int .i64 20)) (.cons (.cst (.int .i64 20)) (.cons (.cst (.int .i64 576)) (.cons (.cst (.int .i64 224)) (.cons (.cst (.int .i64 4)) .nil)))))))) (.cons (.node (.build [(.int .i64 0), (.int .i64 0), (.int .i64 0), (.int .i64 0), (.int .i64 0), (.int .i64 0), (.int .i64 0)] [(0, 1), (1, 1), (2, 1), (3, 1), (4, 1), (5, 1), (6, 1)]) (.cons (.cst (.int .i64 96)) (.cons (.cst (.int .i64 96)) (.cons (.cst (.int .i64 22)) (.cons (.cst (.int .i64 22)) (.cons (.cst (.int .i64 696)) (.cons (.cst (.int .i64 272)) (.cons (.cst (.int .i64 4)) .nil)))))))) (.cons (.node (.build [(.int .i64 0), (.int .i64 0), (.int .i64 0), (.int .i64 0), (.int .i64 0), (.int .i64 0), (.int .i64 0)] [(0, 1), (1, 1), (2, 1), (3, 1), (4, 1), (5, 1), (6, 1)]) (.cons (.cst (.int .i64 104)) (.cons (.cst (.int .i64 104)) (.cons (.cst (.int .i64 24)) (.cons (.cst (.int .i64 24)) (.cons (.cst (.int .i64 816)) (.cons (.cst (.int .i64 336)) (.cons (.cst (.int .i64 6)) .nil)))))))) (.cons (.node (.build [(.int .i64 0), (.int .i64 0), (.int .i64 0), (.int .i64 0), (.int .i64 0), (.int .i64 0), (.int .i64 0)] [(0, 1), (1, 1), (2, 1), (3, 1), (4, 1), (5, 1), (6, 1)]) (.cons (.cst (.int .i64 120)) (.cons (.cst (.int .i64 120)) (.cons (.cst (.int .i64 18)) (.cons (.cst (.int .i64 18)) (.cons (.cst (.int .i64 1050)) (.cons (.cst (.int .i64 408)) (.cons (.cst (.int .i64 6)) .nil)))))))) (.cons (.node (.build [(.int .i64 0), (.int .i64 0), (.int .i64 0), (.int .i64 0), (.int .i64 0), (.int .i64 0), (.int .i64 0)] [(0, 1), (1, 1), (2, 1), (3, 1), (4, 1), (5, 1), (6, 1)]) (.cons (.cst (.int .i64 132)) (.cons (.cst (.int .i64 132)) (.cons (.cst (.int .i64 20)) (.cons (.cst (.int .i64 20)) (.cons (.cst (.int .i64 1304)) (.cons (.cst (.int .i64 496)) (.cons (.cst (.int .i64 8)) .nil)))))))) (.cons (.node (.build [(.int .i64 0), (.int .i64 0), (.int .i64 0), (.int .i64 0), (.int .i64 0), (.int .i64 0), (.int .i64 0)] [(0, 1), (1, 1), (2, 1), (3, 1), (4, 1), (5, 1), (6, 1)]) (.cons (.cst (.int .i64 144)) (.cons (.cst (.int .i64 144)) (.cons (.cst (.int .i64 22)) (.cons (.cst (.int .i64 22)) (.cons (.cst (.int .i64 1558)) (.cons (.cst (.int .i64 620)) (.cons (.cst (.int .i64 10)) .nil)))))))) (.cons (.node (.build [(.int .i64 0), (.int .i64 0), (.int .i64 0), (.int .i64 0), (.int .i64 0), (.int .i64 0), (.int .i64 0)] [(0, 1), (1, 1), (2, 1), (3, 1), (4, 1), (5, 1), (6, 1)]) (.cons (.cst (.int .i64 8)) (.cons (.cst (.int .i64 18)) (.cons (.cst (.int .i64 6)) (.cons (.cst (.int .i64 16)) (.cons (.cst (.int .i64 5)) (.cons (.cst (.int .i64 7)) (.cons (.cst (.int .i64 1)) .nil)))))))) (.cons (.node (.build [(.int .i64 0), (.int .i64 0), (.int .i64 0), (.int .i64 0), (.int .i64 0), (.int .i64 0), (.int .i64 0)] [(0, 1), (1, 1), (2, 1), (3, 1), (4, 1), (5, 1), (6, 1)]) (.cons (.cst (.int .i64 8)) (.cons (.cst (.int .i64 32)) (.cons (.cst (.int .i64 6)) (.cons (.cst (.int .i64 14)) (.cons (.cst (.int .i64 10)) (.cons (.cst (.int .i64 11)) (.cons (.cst (.int .i64 1)) .nil)))))))) (.cons (.node (.build [(.int .i64 0), (.int .i64 0), (.int .i64 0), (.int .i64 0), (.int .i64 0), (.int .i64 0), (.int .i64 0)] [(0, 1), (1, 1), (2, 1), (3, 1), (4, 1), (5, 1), (6, 1)]) (.cons (.cst (.int .i64 12)) (.cons (.cst (.int .i64 26)) (.cons (.cst (.int .i64 10)) (.cons (.cst (.int .i64 24)) (.cons (.cst (.int .i64 16)) (.cons (.cst (.int .i64 14)) (.cons (.cst (.int .i64 1)) .nil)))))))) (.cons (.node (.build [(.int .i64 0), (.int .i64 0), (.int .i64 0), (.int .i64 0), (.int .i64 0), (.int .i64 0), (.int .i64 0)] [(0, 1), (1, 1), (2, 1), (3, 1), (4, 1), (5, 1), (6, 1)]) (.cons (.cst (.int .i64 12)) (.cons (.cst (.int .i64 36)) (.cons (.cst (.int .i64 10)) (.cons (.cst (.int .i64 16)) (.cons (.cst (.int .i64 22)) (.cons (.cst (.int .i64 18)) (.cons (.cst (.int .i64 1)) .nil)))))))) (.cons (.node (.build [(.int .i64 0), (.int .i64 0), (.int .i64 0), (.int .i64 0), (.int .i64 0), (.int .i64 0), (.int .i64 0)] [(0, 1), (1, 1), (2, 1), (3, 1), (4, 1), (5, 1), (6, 1)]) (.cons (.cst (.int .i64 16)) (.cons (.cst (.int .i64 36)) (.cons (.cst (.int .i64 14)) (.cons (.cst (.int .i64 16)) (.cons (.cst (.int .i64 32)) (.cons (.cst (.int .i64 24)) (.cons (.cst (.int .i64 1)) .nil)))))))) (.cons (.node (.build [(.int .i64 0), (.int .i64 0), (.int .i64 0), (.int .i64 0), (.int .i64 0), (.int .i64 0), (.int .i64 0)] [(0, 1), (1, 1), (2, 1), (3, 1), (4, 1), (5, 1), (6, 1)]) (.cons (.cst (.int .i64 16)) (.cons (.cst (.int .i64 48)) (.cons (.cst (.int .i64 14)) (.cons (.cst (.int .i64 22)) (.cons (.cst (.int .i64 49)) (.cons (.cst (.int .i64 28)) (.cons (.cst (.int .i64 1)) .nil)))))))) .nil))))))))))))))))))))))))))))))))] [] [] (some 1) (.alloc [(.int .i64 0), (.int .i64 0), (.int .i64 0), (.int .i64 0), (.int .i64 0), (.int .i64 0), (.int .i64 0), (.int .i64 0), (.int .i64 0), (.int .i64 0), (.int .i64 0), (.int .i64 0), (.int .i64 0), (.int .i64 0), (.int .i64 0), (.int .i64 0), (.int .i64 0), (.int .i64 0), (.int .i64 0), (.int .i64 0), (.int .i64 0), (.int .i64 0), (.int .i64 0), (.int .i64 0), (.int .i64 0), (.int .i64 0), (.int .i64 0), (.int .i64 0), (.int .i64 0), (.int .i64 0), (.int .i64 0), (.int .i64 0), (.int .i64 0), (.int .i64 0), (.int .i64 0), (.int .i64 0), (.int .i64 0), (.int .i64 0), (.int .i64 0), (.int .i64 0), (.int .i64 0), (.int .i64 0), (.int .i64 0), (.int .i64 0), (.int .i64 0), (.int .i64 0), (.int .i64 0), (.int .i64 0), (.int .i64 0), (.int .i64 0), (.int .i64 0), (.int .i64 0), (.int .i64 0), (.int .i64 0), (.int .i64 0), (.int .i64 0), (.int .i64 0), (.int .i64 0), (.int .i64 0), (.int .i64 0), (.int .i64 0), (.int .i64 0), (.int .i64 0), (.int .i64 0), (.int .i64 0), (.int .i64 0), (.int .i64 0), (.int .i64 0), (.int .i64 0), (.int .i64 0), (.int .i64 0), (.int .i64 0), (.int .i64 0), (.int .i64 0), (.int .i64 0), (.int .i64 0), (.int .i64 0), (.int .i64 0), (.int .i64 0), (.int .i64 0), (.int .i64 0), (.int .i64 0), (.int .i64 0), (.int .i64 0), (.int .i64 0), (.int .i64 0), (.int .i64 0), (.int .i64 0), (.int .i64 0), (.int .i64 0), (.int .i64 0), (.int .i64 0), (.int .i64 0), (.int .i64 0), (.int .i64 0), (.int .i64 0), (.int .i64 0), (.int .i64 0), (.int .i64 0), (.int .i64 0), (.int .i64 0), (.int .i64 0), (.int .i64 0), (.int .i64 0), (.int .i64 0), (.int .i64 0), (.int .i64 0), (.int .i64 0), (.int .i64 0), (.int .i64 0), (.int .i64 0), (.int .i64 0), (.int .i64 0), (.int .i64 0), (.int .i64 0), (.int .i64 0), (.int .i64 0), (.int .i64 0), (.int .i64 0), (.int .i64 0), (.int .i64 0), (.int .i64 0), (.int .i64 0), (.int .i64 0), (.int .i64 0), (.int .i64 0), (.int .i64 0), (.int .i64 0), (.int .i64 0), (.int .i64 0), (.int .i64 0), (.int .i64 0), (.int .i64 0), (.int .i64 0), (.int .i64 0), (.int .i64 0), (.int .i64 0), (.int .i64 0), (.int .i64 0), (.int .i64 0), (.int .i64 0), (.int .i64 0), (.int .i64 0), (.int .i64 0), (.int .i64 0), (.int .i64 0), (.int .i64 0), (.int .i64 0), (.int .i64 0), (.int .i64 0), (.int .i64 0), (.int .i64 0), (.int .i64 0), (.int .i64 0), (.int .i64 0), (.int .i64 0), (.int .i64 0), (.int .i64 0), (.int .i64 0), (.int .i64 0), (.int .i64 0), (.int .i64 0), (.int .i64 0), (.int .i64 0), (.int .i64 0), (.int .i64 0), (.int .i64 0), (.int .i64 0), (.int .i64 0), (.int .i64 0), (.int .i64 0), (.int .i64 0), (.int .i64 0), (.int .i64 0), (.int .i64 0), (.int .i64 0), (.int .i64 0), (.int .i64 0), (.int .i64 0), (.int .i64 0), (.int .i64 0), (.int .i64 0), (.int .i64 0), (.int .i64 0), (.int .i64 0), (.int .i64 0), (.int .i64 0), (.int .i64 0), (.int .i64 0), (.int .i64 0), (.int .i64 0), (.int .i64 0), (.int .i64 0), (.int .i64 0), (.int .i64 0), (.int .i64 0), (.int .i64 0), (.int .i64 0), (.int .i64 0), (.int .i64 0), (.int .i64 0), (.int .i64 0), (.int .i64 0), (.int .i64 0), (.int .i64 0), (.int .i64 0), (.int .i64 0), (.int .i64 0), (.int .i64 0), (.int .i64 0)]) .nil)
  (.hv [] [] [] none (.st 210) (.cons (.var 1) (.cons (.var 5) .nil))))
  (.seq (.seq (.hv [] [] [] (some 6) (.mkSl [(.int .i64 0), (.int .i64 0), (.int .i64 0), (.int .i64 0), (.int .i64 0), (.int .i64 0), (.int .i64 0)]) (.cons (.cst (.int .i64 30)) (.cons (.cst (.int .i64 30)) .nil)))
  (.sets [(2, (.var 6))] []))
  (.seq (.seq (.sets [(8, (.cst (.int .i64 0))), (7, (.node (.ld 210 true) (.cons (.var 1) .nil)))] [])
  (.block 0 (.loop
    (.seq (.cond (.node (.bin .lss) (.cons (.var 8) (.cons (.cst (.int .i64 30)) .nil)))
      .skip
      (.exit 0))
    (.seq (.block 1 (.seq (.seq (.hv [(10, (.node (.idx 30 7 true) (.cons (.var 7) (.cons (.var 8) .nil)))), (9, (.var 8))] [] [] (some 4) (.alloc [(.int .i64 0), (.int .i64 0), (.int .i64 0), (.int .i64 0), (.int .i64 0), (.int .i64 0), (.int .i64 0)]) .nil)
    (.hv [(3, (.var 9))] [] [] none (.st 7) (.cons (.var 4) (.cons (.var 10) .nil))))
    (.hv [] [] [] none (.st 7) (.cons (.node (.iAddr 7) (.cons (.var 2) (.cons (.var 3) .nil))) (.cons (.node (.build [(.int .i64 0), (.int .i64 0), (.int .i64 0), (.int .i64 0), (.int .i64 0), (.int .i64 0), (.int .i64 0)] [(0, 1), (1, 1), (2, 1), (3, 1), (4, 1), (5, 1), (6, 1)]) (.cons (.node (.ld 1 false) (.cons (.node (.iAddrA 7 1) (.cons (.var 4) (.cons (.cst (.int .i64 0)) .nil))) .nil)) (.cons (.node (.ld 1 false) (.cons (.node (.iAddrA 7 1) (.cons (.var 4) (.cons (.cst (.int .i64 1)) .nil))) .nil)) (.cons (.node (.ld 1 false) (.cons (.node (.iAddrA 7 1) (.cons (.var 4) (.cons (.cst (.int .i64 2)) .nil))) .nil)) (.cons (.node (.ld 1 false) (.cons (.node (.iAddrA 7 1) (.cons (.var 4) (.cons (.cst (.int .i64 3)) .nil))) .nil)) (.cons (.node (.ld 1 false) (.cons (.node (.iAddrA 7 1) (.cons (.var 4) (.cons (.cst (.int .i64 4)) .nil))) .nil)) (.cons (.node (.ld 1 false) (.cons (.node (.iAddrA 7 1) (.cons (.var 4) (.cons (.cst (.int .i64 5)) .nil))) .nil)) (.cons (.node (.ld 1 false) (.cons (.node (.iAddrA 7 1) (.cons (.var 4) (.cons (.cst (.int .i64 6)) .nil))) .nil)) .nil)))))))) .nil)))))
    (.sets [(8, (.node (.bin .add) (.cons (.var 8) (.cons (.cst (.int .i64 1)) .nil))))] []))))))
  (.seq (.sets [(0, (.var 2))] [])
  .ret)))))
def cf10 : CF := ⟨0, 11, [(.var 0)], bd10⟩
def tr10 : List Nat := [0, 1, 2, 3, 4, 35, 36, 37, 38, 40, 41]
/-- barscan/barscanref25.Sizes -/
def bd11 : Stm :=
  (.seq (.sets [(0, (.cst (.slice none 0 0)))] [])
  (.seq (.seq (.hv [] [] [] (some 4) (.bSl [(.int .i64 0), (.int .i64 0), (.int .i64 0), (.int .i64 0), (.int .i64 0), (.int .i64 0), (.int .i64 0)] 30 [0, 1, 2, 3, 4, 5, 6, 7, 8, 9, 10, 11, 12, 13, 14, 15, 16, 17, 18, 19, 20, 21, 22, 23, 24, 25, 26, 27, 28, 29]) (.cons (.node (.build [(.int .i64 0), (.int .i64 0), (.int .i64 0), (.int .i64 0), (.int .i64 0), (.int .i64 0), (.int .i64 0)] [(0, 1), (1, 1), (2, 1), (3, 1), (4, 1), (5, 1), (6, 1)]) (.cons (.cst (.int .i64 10)) (.cons (.cst (.int .i64 10)) (.cons (.cst (.int .i64 8)) (.cons (.cst (.int .i64 8)) (.cons (.cst (.int .i64 3)) (.cons (.cst (.int .i64 5)) (.cons (.cst (.int .i64 1)) .nil)))))))) (.cons (.node (.build [(.int .i64 0), (.int .i64 0), (.int .i64 0), (.int .i64 0), (.int .i64 0), (.int .i64 0), (.int .i64 0)] [(0, 1), (1, 1), (2, 1), (3, 1), (4, 1), (5, 1), (6, 1)]) (.cons (.cst (.int .i64 12)) (.cons (.cst (.int .i64 12)) (.cons (.cst (.int .i64 10)) (.cons (.cst (.int .i64 10)) (.cons (.cst (.int .i64 5)) (.cons (.cst (.int .i64 7)) (.cons (.cst (.int .i64 1)) .nil)))))))) (.cons (.node (.build [(.int .i64 0), (.int .i64 0), (.int .i64 0), (.int .i64 0), (.int .i64 0), (.int .i64 0), (.int .i64 0)] [(0, 1), (1, 1), (2, 1), (3, 1), (4, 1), (5, 1), (6, 1)]) (.cons (.cst (.int .i64 14)) (.cons (.cst (.int .i64 14)) (.cons (.cst (.int .i64 12)) (.cons (.cst (.int .i64 12)) (.cons (.cst (.int .i64 8)) (.cons (.cst (.int .i64 10)) (.cons (.cst (.int .i64 1)) .nil)))))))) (.cons (.node (.build [(.int .i64 0), (.int .i64 0), (.int .i64 0), (.int .i64 0), (.int .i64 0), (.int .i64 0), (.int .i64 0)] [(0, 1), (1, 1), (2, 1), (3, 1), (4, 1), (5, 1), (6, 1)]) (.cons (.cst (.int .i64 16)) (.cons (.cst (.int .i64 16)) (.cons (.cst (.int .i64 14)) (.cons (.cst (.int .i64 14)) (.cons (.cst (.int .i64 12)) (.cons (.cst (.int .i64 12)) (.cons (.cst (.int .i64 1)) .nil)))))))) (.cons (.node (.build [(.int .i64 0), (.int .i64 0), (.int .i64 0), (.int .i64 0), (.int .i64 0), (.int .i64 0), (.int .i64 0)] [(0, 1), (1, 1), (2, 1), (3, 1), (4, 1), (5, 1), (6, 1)]) (.cons (.cst (.int .i64 18)) (.cons (.cst (.int .i64 18)) (.cons (.cst (.int .i64 16)) (.cons (.cst (.int .i64 16)) (.cons (.cst (.int .i64 18)) (.cons (.cst (.int .i64 14)) (.cons (.cst (.int .i64 1)) .nil)))))))) (.cons (.node (.build [(.int .i64 0), (.int .i64 0), (.int .i64 0), (.int .i64 0), (.int .i64 0), (.int .i64 0), (.int .i64 0)] [(0, 1), (1, 1), (2, 1), (3, 1), (4, 1), (5, 1), (6, 1)]) (.cons (.cst (.int .i64 20)) (.cons (.cst (.int .i64 20)) (.cons (.cst (.int .i64 18)) (.cons (.cst (.int .i64 18)) (.cons (.cst (.int .i64 22)) (.cons (.cst (.int .i64 18)) (.cons (.cst (.int .i64 1)) .nil)))))))) (.cons (.node (.build [(.int .i64 0), (.int .i64 0), (.int .i64 0), (.int .i64 0), (.int .i64 0), (.int .i64 0), (.int .i64 0)] [(0, 1), (1, 1), (2, 1), (3, 1), (4, 1), (5, 1), (6, 1)]) (.cons (.cst (.int .i64 22)) (.cons (.cst (.int .i64 22)) (.cons (.cst (.int .i64 20)) (.cons (.cst (.int .i64 20)) (.cons (.cst (.int .i64 30)) (.cons (.cst (.int .i64 20)) (.cons (.cst (.int .i64 1)) .nil)))))))) (.cons (.node (.build [(.int .i64 0), (.int .i64 0), (.int .i64 0), (.int .i64 0), (.int .i64 0), (.int .i64 0), (.int .i64 0)] [(0, 1), (1, 1), (2, 1), (3, 1), (4, 1), (5, 1), (6, 1)]) (.cons (.cst (.int .i64 24)) (.cons (.cst (.int .i64 24)) (.cons (.cst (.int .i64 22)) (.cons (.cst (.int .i64 22)) (.cons (.cst (.int .i64 36)) (.cons (.cst (.int .i64 24)) (.cons (.cst (.int .i64 1)) .nil)))))))) (.cons (.node (.build [(.int .i64 0), (.int .i64 0), (.int .i64 0), (.int .i64 0), (.int .i64 0), (.int .i64 0), (.int .i64 0)] [(0, 1), (1, 1), (2, 1), (3, 1), (4, 1), (5, 1), (6, 1)]) (.cons (.cst (.int .i64 26)) (.cons (.cst (.int .i64 26)) (.cons (.cst (.int .i64 24)) (.cons (.cst (.int .i64 24)) (.cons (.cst (.int .i64 44)) (.cons (.cst (.int .i64 28)) (.cons (.cst (.int .i64 1)) .nil)))))))) (.cons (.node (.build [(.int .i64 0), (.int .i64 0), (.int .i64 0), (.int .i64 0), (.int .i64 0), (.int .i64 0), (.int .i64 0)] [(0, 1), (1, 1), (2, 1), (3, 1), (4, 1), (5, 1), (6, 1)]) (.cons (.cst (.int .i64 32)) (.cons (.cst (.int .i64 32)) (.cons (.cst (.int .i64 14)) (.cons (.cst (.int .i64 14)) (.cons (.cst (.int .i64 62)) (.cons (.cst (.int .i64 36)) (.cons (.cst (.int .i64 1)) .nil)))))))) (.cons (.node (.build [(.int .i64 0), (.int .i64 0), (.int .i64 0), (.int .i64 0), (.int .i64 0), (.int .i64 0), (.int .i64 0)] [(0, 1), (1, 1), (2, 1), (3, 1), (4, 1), (5, 1), (6, 1)]) (.cons (.cst (.int .i64 36)) (.cons (.cst (.int .i64 36)) (.cons (.cst (.int .i64 16)) (.cons (.cst (.int .i64 16)) (.cons (.cst (.int .i64 86)) (.cons (.cst (.int .i64 42)) (.cons (.cst (.int .i64 1)) .nil)))))))) (.cons (.node (.build [(.int .i64 0), (.int .i64 0), (.int .i64 0), (.int .i64 0), (.int .i64 0), (.int .i64 0), (.int .i64 0)] [(0, 1), (1, 1), (2, 1), (3, 1), (4, 1), (5, 1), (6, 1)]) (.cons (.cst (.int .i64 40)) (.cons (.cst (.int .i64 40)) (.cons (.cst (.int .i64 18)) (.cons (.cst (.int .i64 18)) (.cons (.cst (.int .i64 114)) (.cons (.cst (.int .i64 48)) (.cons (.cst (.int .i64 1)) .nil)))))))) (.cons (.node (.build [(.int .i64 0), (.int .i64 0), (.int .i64 0), (.int .i64 0), (.int .i64 0), (.int .i64 0), (.int .i64 0)] [(0, 1), (1, 1), (2, 1), (3, 1), (4, 1), (5, 1), (6, 1)]) (.cons (.cst (.int .i64 44)) (.cons (.cst (.int .i64 44)) (.cons (.cst (.int .i64 20)) (.cons (.cst (.int .i64 20)) (.cons (.cst (.int .i64 144)) (.cons (.cst (.int .i64 56)) (.cons (.cst (.int .i64 1)) .nil)))))))) (.cons (.node (.build [(.int .i64 0), (.int .i64 0), (.int .i64 0), (.int .i64 0), (.int .i64 0), (.int .i64 0), (.int .i64 0)] [(0, 1), (1, 1), (2, 1), (3, 1), (4, 1), (5, 1), (6, 1)]) (.cons (.cst (.int .i64 48)) (.cons (.cst (.int .i64 48)) (.cons (.cst (.int .i64 22)) (.cons (.cst (.int .i64 22)) (.cons (.cst (.int .i64 174)) (.cons (.cst (.int .i64 68)) (.cons (.cst (.int .i64 1)) .nil)))))))) (.cons (.node (.build [(.int .i64 0), (.int .i64 0), (.int .i64 0), (.int .i64 0), (.int .i64 0), (.int .i64 0), (.int .i64 0)] [(0, 1), (1, 1), (2, 1), (3, 1), (4, 1), (5, 1), (6, 1)]) (.cons (.cst (.int .i64 52)) (.cons (.cst (.int .i64 52)) (.cons (.cst (.int .i64 24)) (.cons (.cst (.int .i64 24)) (.cons (.cst (.int .i64 204)) (.cons (.cst (.int .i64 84)) (.cons (.cst (.int .i64 2)) .nil)))))))) (.cons (.node (.build [(.int .i64 0), (.int .i64 0), (.int .i64 0), (.int .i64 0), (.int .i64 0), (.int .i64 0), (.int .i64 0)] [(0, 1), (1, 1), (2, 1), (3, 1), (4, 1), (5, 1), (6, 1)]) (.cons (.cst (.int .i64 64)) (.cons (.cst (.int .i64 64)) (.cons (.cst (.int .i64 14)) (.cons (.cst (.int .i64 14)) (.cons (.cst (.int .i64 280)) (.cons (.cst (.int .i64 112)) (.cons (.cst (.int .i64 2)) .nil)))))))) (.cons (.node (.build [(.int .i64 0), (.int .i64 0), (.int .i64 0), (.int .i64 0), (.int .i64 0), (.int .i64 0), (.int .i64 0)] [(0, 1), (1, 1), (2, 1), (3, 1), (4, 1), (5, 1), (6, 1)]) (.cons (.cst (.int .i64 72)) (.cons (.cst (.int .i64 72)) (.cons (.cst (.int .i64 16)) (.cons (.cst (.int .i64 16)) (.cons (.cst (.int .i64 368)) (.cons (.cst (.int .i64 144)) (.cons (.cst (.int .i64 4)) .nil)))))))) (.cons (.node (.build [(.int .i64 0), (.int .i64 0), (.int .i64 0), (.int .i64 0), (.int .i64 0), (.int .i64 0), (.int .i64 0)] [(0, 1), (1, 1), (2, 1), (3, 1), (4, 1), (5, 1), (6, 1)]) (.cons (.cst (.int .i64 80)) (.cons (.cst (.int .i64 80)) (.cons (.cst (.int .i64 18)) (.cons (.cst (.int .i64 18)) (.cons (.cst (.int .i64 456)) (.cons (.cst (.int .i64 192)) (.cons (.cst (.int .i64 4)) .nil)))))))) (.cons (.node (.build [(.int .i64 0), (.int .i64 0), (.int .i64 0), (.int .i64 0), (.int .i64 0), (.int .i64 0), (.int .i64 0)] [(0, 1), (1, 1), (2, 1), (3, 1), (4, 1), (5, 1), (6, 1)]) (.cons (.cst (.int .i64 88)) (.cons (.cst (.int .i64 88)) (.cons (.cst (.int .i64 20)) (.cons (.cst (.int .i64 20)) (.cons (.cst (.int .i64 576)) (.cons (.cst (.int .i64 224)) (.cons (.cst (.int .i64 4)) .nil)))))))) (.cons (.node (.build [(.int .i64 0), (.int .i64 0), (.int .i64 0), (.int .i64 0), (.int .i64 0), (.int .i64 0), (.int .i64 0)] [(0, 1), (1, 1), (2, 1), (3, 1), (4, 1), (5, 1), (6, 1)]) (.cons (.cst (.int .i64 96)) (.cons (.cst (.int .i64 96)) (.cons (.cst (.int .i64 22)) (.cons (.cst (.int .i64 22)) (.cons (.cst (.int .i64 696)) (.cons (.cst (.int .i64 272)) (.cons (.cst (.int .i64 4)) .nil)))))))) (.cons (.node (.build [(.int .i64 0), (.int .i64 0), (.int .i64 0), (.int .i64 0), (.int .i64 0), (.int .i64 0), (.int .i64 0)] [(0, 1), (1, 1), (2, 1), (3, 1), (4, 1), (5, 1), (6, 1)]) (.cons (.cst (.int .i64 104)) (.cons (.cst (.int .i64 104)) (.cons (.cst (.int .i64 24)) (.cons (.cst (.int .i64 24)) (.cons (.cst (.int .i64 816)) (.cons (.cst (.int .i64 336)) (.cons (.cst (.int .i64 6)) .nil)))))))) (.cons (.node (.build [(.int .i64 0), (.int .i64 0), (.int .i64 0), (.int .i64 0), (.int .i64 0), (.int .i64 0), (.int .i64 0)] [(0, 1), (1, 1), (2, 1), (3, 1), (4, 1), (5, 1), (6, 1)]) (.cons (.cst (.int .i64 120)) (.cons (.cst (.int .i64 120)) (.cons (.cst (.int .i64 18)) (.cons (.cst (.int .i64 18)) (.cons (.cst (.int .i64 1050)) (.cons (.cst (.int .i64 408)) (.cons (.cst (.int .i64 6)) .nil)))))))) (.cons (.node (.build [(.int .i64 0), (.int .i64 0), (.int .i64 0), (.int .i64 0), (.int .i64 0), (.int .i64 0), (.int .i64 0)] [(0, 1), (1, 1), (2, 1), (3, 1), (4, 1), (5, 1), (6, 1)]) (.cons (.cst (.int .i64 132)) (.cons (.cst (.int .i64 132)) (.cons (.cst (.int .i64 20)) (.cons (.cst (.int .i64 20)) (.cons (.cst (.int .i64 1304)) (.cons (.cst (.int .i64 496)) (.cons (.cst (.int .i64 8)) .nil)))))))) (.cons (.node (.build [(.int .i64 0), (.int .i64 0), (.int .i64 0), (.int .i64 0), (.int .i64 0), (.int .i64 0), (.int .i64 0)] [(0, 1), (1, 1), (2, 1), (3, 1), (4, 1), (5, 1), (6, 1)]) (.cons (.cst (.int .i64 144)) (.cons (.cst (.int .i64 144)) (.cons (.cst (.int .i64 22)) (.cons (.cst (.int .i64 22)) (.cons (.cst (.int .i64 1558)) (.cons (.cst (.int .i64 620)) (.cons (.cst (.int .i64 10)) .nil)))))))) (.cons (.node (.build [(.int .i64 0), (.int .i64 0), (.int .i64 0), (.int .i64 0), (.int .i64 0), (.int .i64 0), (.int .i64 0)] [(0, 1), (1, 1), (2, 1), (3, 1), (4, 1), (5, 1), (6, 1)]) (.cons (.cst (.int .i64 8)) (.cons (.cst (.int .i64 18)) (.cons (.cst (.int .i64 6)) (.cons (.cst (.int .i64 16)) (.cons (.cst (.int .i64 5)) (.cons (.cst (.int .i64 7)) (.cons (.cst (.int .i64 1)) .nil)))))))) (.cons (.node (.build [(.int .i64 0), (.int .i64 0), (.int .i64 0), (.int .i64 0), (.int .i64 0), (.int .i64 0), (.int .i64 0)] [(0, 1), (1, 1), (2, 1), (3, 1), (4, 1), (5, 1), (6, 1)]) (.cons (.cst (.int .i64 8)) (.cons (.cst (.int .i64 32)) (.cons (.cst (.int .i64 6)) (.cons (.cst (.int .i64 14)) (.cons (.cst (.int .i64 10)) (.cons (.cst (.int .i64 11)) (.cons (.cst (.int .i64 1)) .nil)))))))) (.cons (.node (.build [(.int .i64 0), (.int .i64 0), (.int .i64 0), (.int .i64 0), (.int .i64 0), (.int .i64 0), (.int .i64 0)] [(0, 1), (1, 1), (2, 1), (3, 1), (4, 1), (5, 1), (6, 1)]) (.cons (.cst (.int .i64 12)) (.cons (.cst (.int .i64 26)) (.cons (.cst (.int .i64 10)) (.cons (.cst (.int .i64 24)) (.cons (.cst (.int .i64 16)) (.cons (.cst (.int .i64 14)) (.cons (.cst (.int .i64 1)) .nil)))))))) (.cons (.node (.build [(.int .i64 0), (.int .i64 0), (.int .i64 0), (.int .i64 0), (.int .i64 0), (.int .i64 0), (.int .i64 0)] [(0, 1), (1, 1), (2, 1), (3, 1), (4, 1), (5, 1), (6, 1)]) (.cons (.cst (.int .i64 12)) (.cons (.cst (.int .i64 36)) (.cons (.cst (.int .i64 10)) (.cons (.cst (.int .i64 16)) (.cons (.cst (.int .i64 22)) (.cons (.cst (.int .i64 18)) (.cons (.cst (.int .i64 1)) .nil)))))))) (.cons (.node (.build [(.int .i64 0), (.int .i64 0), (.int .i64 0), (.int .i64 0), (.int .i64 0), (.int .i64 0), (.int .i64 0)] [(0, 1), (1, 1), (2, 1), (3, 1), (4, 1), (5, 1), (6, 1)]) (.cons (.cst (.int .i64 16)) (.cons (.cst (.int .i64 36)) (.cons (.cst (.int .i64 14)) (.cons (.cst (.int .i64 16)) (.cons (.cst (.int .i64 32)) (.cons (.cst (.int .i64 24)) (.cons (.cst (.int .i64 1)) .nil)))))))) (.cons (.node (.build [(.int .i64 0), (.int .i64 0), (.int .i64 0), (.int .i64 0), (.int .i64 0), (.int .i64 0), (.int .i64 0)] [(0, 1), (1, 1), (2, 1), (3, 1), (4, 1), (5, 1), (6, 1)]) (.cons (.cst (.int .i64 16)) (.cons (.cst (.int .i64 48)) (.cons (.cst (.int .i64 14)) (.cons (.cst (.int .i64 22)) (.cons (.cst (.int .i64 49)) (.cons (.cst (.int .i64 28)) (.cons (.cst (.int .i64 1)) .nil)))))))) .nil)))))))))))))))))))))))))))))))
  (.sets [(1, (.var 4))] []))
  (.seq (.sets [(2, (.cst (.slice none 0 0)))] [])
  (.seq (.seq (.sets [(3, (.cst (.int .i64 0)))] [])
  (.block 0 (.loop
    (.seq (.cond (.node (.bin .lss) (.cons (.var 3) (.cons (.node .len (.cons (.var 1) .nil)) .nil)))
      .skip
      (.exit 0))
    (.seq (.block 1 (.seq (.hv [(5, (.var 2))] [] [] (some 6) (.call false) (.cons (.cst (.func (.func 24) #[] #[])) (.cons (.node (.ld 7 true) (.cons (.node (.iAddr 7) (.cons (.var 1) (.cons (.var 3) .nil))) .nil)) .nil)))
    (.seq (.hv [] [] [] (some 7) (.bSl [(.int .i64 0), (.int .i64 0), (.int .i64 0), (.int .i64 0), (.int .i64 0), (.int .i64 0), (.int .i64 0)] 1 [0]) (.cons (.var 6) .nil))
    (.seq (.hv [] [] [] (some 8) (.app 7 [(.int .i64 0), (.int .i64 0), (.int .i64 0), (.int .i64 0), (.int .i64 0), (.int .i64 0), (.int .i64 0)]) (.cons (.var 5) (.cons (.var 7) .nil)))
    (.sets [(2, (.var 8))] [])))))
    (.sets [(3, (.node (.bin .add) (.cons (.var 3) (.cons (.cst (.int .i64 1)) .nil))))] []))))))
  (.seq (.sets [(0, (.var 2))] [])
  .ret)))))
def cf11 : CF := ⟨0, 9, [(.var 0)], bd11⟩
def tr11 : List Nat := [0, 1, 2, 3, 34, 41, 46, 47, 48]
/-- barscan/dmlayout.Fit -/
def bd12 : Stm :=
  (.seq (.seq (.hv [] [] [] (some 2) (.alloc [(.int .i64 0), (.int .i64 0), (.int .i64 0), (.int .i64 0), (.int .i64 0), (.int .i64 0), (.int .i64 0)]) .nil)
  (.sets [(3, (.cst (.int .i64 0)))] []))
  (.seq (.cond (.node (.bin .lss) (.cons (.var 0) (.cons (.cst (.int .i64 1)) .nil)))
    (.seq (.seq (.hv [] [] [] none (.st 7) (.cons (.var 2) (.cons (.node (.build [(.int .i64 0), (.int .i64 0), (.int .i64 0), (.int .i64 0), (.int .i64 0), (.int .i64 0), (.int .i64 0)] []) .nil) .nil)))
    (.sets [(3, (.cst (.int .i64 3)))] []))
    .ret)
    .skip)
  (.seq (.cond (.node (.bin .gtr) (.cons (.var 0) (.cons (.cst (.int .i64 1558)) .nil)))
    (.seq (.seq (.hv [] [] [] none (.st 7) (.cons (.var 2) (.cons (.node (.build [(.int .i64 0), (.int .i64 0), (.int .i64 0), (.int .i64 0), (.int .i64 0), (.int .i64 0), (.int .i64 0)] []) .nil) .nil)))
    (.sets [(3, (.cst (.int .i64 16)))] []))
    .ret)
    .skip)
  (.seq (.hv [] [] [] (some 4) (.alloc [(.int .i64 0), (.int .i64 0), (.int .i64 0), (.int .i64 0), (.int .i64 0), (.int .i64 0), (.int .i64 0)]) .nil)
  (.seq (.seq (.seq (.hv [] [] [] (some 6) (.call false) (.cons (.cst (.func (.func 10) #[] #[])) .nil))
  (.sets [(8, (.cst (.int .i64 0))), (7, (.node .len (.cons (.var 6) .nil)))] []))
  (.block 0 (.loop
    (.seq (.cond (.node (.bin .lss) (.cons (.var 8) (.cons (.var 7) .nil)))
      .skip
      (.exit 0))
    (.seq (.block 1 (.seq (.seq (.hv [(9, (.node (.ld 7 true) (.cons (.node (.iAddr 7) (.cons (.var 6) (.cons (.var 8) .nil))) .nil)))] [] [] (some 5) (.alloc [(.int .i64 0), (.int .i64 0), (.int .i64 0), (.int .i64 0), (.int .i64 0), (.int .i64 0), (.int .i64 0)]) .nil)
    (.hv [] [] [] none (.st 7) (.cons (.var 5) (.cons (.var 9) .nil))))
    (.seq (.cond (.pick (.pick (.var 1) (.node (.bin .neq) (.cons (.node (.ld 1 false) (.cons (.node (.fAddr 0) (.cons (.var 5) .nil)) .nil)) (.cons (.node (.ld 1 false) (.cons (.node (.fAddr 1) (.cons (.var 5) .nil)) .nil)) .nil))) (.cst (.bool false))) (.cst (.bool true)) (.node (.bin .lss) (.cons (.node (.ld 1 false) (.cons (.node (.fAddr 4) (.cons (.var 5) .nil)) .nil)) (.cons (.var 0) .nil))))
      (.exit 1)
      .skip)
    (.cond (.pick (.node (.bin .eql) (.cons (.node (.ld 1 false) (.cons (.node (.fAddr 4) (.cons (.var 4) .nil)) .nil)) (.cons (.cst (.int .i64 0)) .nil))) (.cst (.bool true)) (.node (.bin .lss) (.cons (.node (.ld 1 false) (.cons (.node (.fAddr 4) (.cons (.var 5) .nil)) .nil)) (.cons (.node (.ld 1 false) (.cons (.node (.fAddr 4) (.cons (.var 4) .nil)) .nil)) .nil))))
      (.hv [] [] [] none (.st 7) (.cons (.var 4) (.cons (.node (.ld 7 true) (.cons (.var 5) .nil)) .nil)))
      .skip))))
    (.sets [(8, (.node (.bin .add) (.cons (.var 8) (.cons (.cst (.int .i64 1)) .nil))))] []))))))
  (.seq (.seq (.hv [] [] [] none (.st 7) (.cons (.var 2) (.cons (.node (.ld 7 true) (.cons (.var 4) .nil)) .nil)))
  (.sets [(3, (.cst (.int .i64 0)))] []))
  .ret))))))
def cf12 : CF := ⟨2, 10, [(.node (.ld 7 true) (.cons (.var 2) .nil)), (.var 3)], bd12⟩
def tr12 : List Nat := [0, 1, 4, 5, 6, 8, 15, 16, 17, 20]
/-- barscan/barscanref25.Fit -/
def bd13 : Stm :=
  (.seq (.seq (.hv [] [] [] (some 2) (.alloc [(.int .i64 0), (.int .i64 0), (.int .i64 0), (.int .i64 0), (.int .i64 0), (.int .i64 0), (.int .i64 0)]) .nil)
  (.sets [(3, (.cst (.int .i64 0)))] []))
  (.seq (.cond (.node (.bin .lss) (.cons (.var 0) (.cons (.cst (.int .i64 1)) .nil)))
    (.seq (.seq (.hv [] [] [] none (.st 7) (.cons (.var 2) (.cons (.node (.build [(.int .i64 0), (.int .i64 0), (.int .i64 0), (.int .i64 0), (.int .i64 0), (.int .i64 0), (.int .i64 0)] []) .nil) .nil)))
    (.sets [(3, (.cst (.int .i64 3)))] []))
    .ret)
    .skip)
  (.seq (.seq (.hv [(8, (.node (.build [(.int .i64 0), (.int .i64 0), (.int .i64 0), (.int .i64 0), (.int .i64 0), (.int .i64 0), (.int .i64 0)] []) .nil))] [] [] (some 4) (.alloc [(.int .i64 0), (.int .i64 0), (.int .i64 0), (.int .i64 0), (.int .i64 0), (.int .i64 0), (.int .i64 0)]) .nil)
  (.hv [] [] [] none (.st 7) (.cons (.var 4) (.cons (.var 8) .nil))))
  (.seq (.seq (.hv [] [] [] (some 9) (.call false) (.cons (.cst (.func (.func 11) #[] #[])) .nil))
  (.sets [(5, (.var 9))] []))
  (.seq (.seq (.sets [(6, (.cst (.int .i64 0)))] [])
  (.block 0 (.loop
    (.seq (.cond (.node (.bin .lss) (.cons (.var 6) (.cons (.node .len (.cons (.var 5) .nil)) .nil)))
      .skip
      (.exit 0))
    (.seq (.block 1 (.seq (.seq (.hv [(10, (.node (.ld 7 true) (.cons (.node (.iAddr 7) (.cons (.var 5) (.cons (.var 6) .nil))) .nil)))] [] [] (some 7) (.alloc [(.int .i64 0), (.int .i64 0), (.int .i64 0), (.int .i64 0), (.int .i64 0), (.int .i64 0), (.int .i64 0)]) .nil)
    (.hv [] [] [] none (.st 7) (.cons (.var 7) (.cons (.var 10) .nil))))
    (.cond (.pick (.pick (.node (.bin .geq) (.cons (.node (.ld 1 false) (.cons (.node (.fAddr 4) (.cons (.var 7) .nil)) .nil)) (.cons (.var 0) .nil))) (.pick (.node (.bin .eql) (.cons (.node (.ld 1 false) (.cons (.node (.fAddr 0) (.cons (.var 7) .nil)) .nil)) (.cons (.node (.ld 1 false) (.cons (.node (.fAddr 1) (.cons (.var 7) .nil)) .nil)) .nil))) (.cst (.bool true)) (.node (.un .not) (.cons (.var 1) .nil))) (.cst (.bool false))) (.pick (.node (.bin .eql) (.cons (.node (.ld 1 false) (.cons (.node (.fAddr 4) (.cons (.var 4) .nil)) .nil)) (.cons (.cst (.int .i64 0)) .nil))) (.cst (.bool true)) (.node (.bin .lss) (.cons (.node (.ld 1 false) (.cons (.node (.fAddr 4) (.cons (.var 7) .nil)) .nil)) (.cons (.node (.ld 1 false) (.cons (.node (.fAddr 4) (.cons (.var 4) .nil)) .nil)) .nil)))) (.cst (.bool false)))
      (.hv [] [] [] none (.st 7) (.cons (.var 4) (.cons (.node (.ld 7 true) (.cons (.var 7) .nil)) .nil)))
      .skip)))
    (.sets [(6, (.node (.bin .add) (.cons (.var 6) (.cons (.cst (.int .i64 1)) .nil))))] []))))))
  (.seq (.cond (.node (.bin .eql) (.cons (.node (.ld 1 false) (.cons (.node (.fAddr 4) (.cons (.var 4) .nil)) .nil)) (.cons (.cst (.int .i64 0)) .nil)))
    (.seq (.seq (.hv [] [] [] none (.st 7) (.cons (.var 2) (.cons (.node (.build [(.int .i64 0), (.int .i64 0), (.int .i64 0), (.int .i64 0), (.int .i64 0), (.int .i64 0), (.int .i64 0)] []) .nil) .nil)))
    (.sets [(3, (.cst (.int .i64 16)))] []))
    .ret)
    .skip)
  (.seq (.seq (.hv [] [] [] none (.st 7) (.cons (.var 2) (.cons (.node (.ld 7 true) (.cons (.var 4) .nil)) .nil)))
  (.sets [(3, (.cst (.int .i64 0)))] []))
  .ret)))))))
def cf13 : CF := ⟨2, 11, [(.node (.ld 7 true) (.cons (.var 2) .nil)), (.var 3)], bd13⟩
def tr13 : List Nat := [0, 1, 4, 5, 6, 7, 8, 9, 13, 14, 24]
/-- barscan/barscanlaw25.examples -/
def bd14 : Stm :=
  (.seq (.sets [(0, (.cst (.bool false)))] [])
  (.seq (.seq (.hv [] [] [] (some 12) (.call false) (.cons (.cst (.func (.func 15) #[] #[])) (.cons (.cst (.int .i64 8)) (.cons (.cst (.int .i64 8)) .nil))))
  (.sets [(2, (.node (.ext 1) (.cons (.var 12) .nil))), (1, (.node (.ext 0) (.cons (.var 12) .nil)))] []))
  (.seq (.seq (.hv [] [] [] (some 13) (.call false) (.cons (.cst (.func (.func 12) #[] #[])) (.cons (.cst (.int .i64 9)) (.cons (.cst (.bool true)) .nil))))
  (.seq (.hv [(15, (.node (.ext 1) (.cons (.var 13) .nil))), (14, (.node (.ext 0) (.cons (.var 13) .nil)))] [] [] (some 3) (.alloc [(.int .i64 0), (.int .i64 0), (.int .i64 0), (.int .i64 0), (.int .i64 0), (.int .i64 0), (.int .i64 0)]) .nil)
  (.seq (.hv [] [] [] none (.st 7) (.cons (.var 3) (.cons (.var 14) .nil)))
  (.sets [(4, (.var 15))] []))))
  (.seq (.seq (.hv [] [] [] (some 16) (.call false) (.cons (.cst (.func (.func 12) #[] #[])) (.cons (.cst (.int .i64 9)) (.cons (.cst (.bool false)) .nil))))
  (.seq (.hv [(18, (.node (.ext 1) (.cons (.var 16) .nil))), (17, (.node (.ext 0) (.cons (.var 16) .nil)))] [] [] (some 5) (.alloc [(.int .i64 0), (.int .i64 0), (.int .i64 0), (.int .i64 0), (.int .i64 0), (.int .i64 0), (.int .i64 0)]) .nil)
  (.seq (.hv [] [] [] none (.st 7) (.cons (.var 5) (.cons (.var 17) .nil)))
  (.sets [(6, (.var 18))] []))))
  (.seq (.seq (.hv [] [] [] (some 19) (.call false) (.cons (.cst (.func (.func 12) #[] #[])) (.cons (.cst (.int .i64 1559)) (.cons (.cst (.bool false)) .nil))))
  (.seq (.hv [(21, (.node (.ext 1) (.cons (.var 19) .nil))), (20, (.node (.ext 0) (.cons (.var 19) .nil)))] [] [] (some 7) (.alloc [(.int .i64 0), (.int .i64 0), (.int .i64 0), (.int .i64 0), (.int .i64 0), (.int .i64 0), (.int .i64 0)]) .nil)
  (.seq (.hv [] [] [] none (.st 7) (.cons (.var 7) (.cons (.var 20) .nil)))
  (.sets [(8, (.var 21))] []))))
  (.seq (.seq (.hv [] [] [] (some 22) (.call false) (.cons (.cst (.func (.func 10) #[] #[])) .nil))
  (.sets [(9, (.var 22))] []))
  (.seq (.cond (.pick (.pick (.pick (.pick (.pick (.node (.bin .neq) (.cons (.var 2) (.cons (.cst (.int .i64 0)) .nil))) (.cst (.bool true)) (.node (.bin .neq) (.cons (.node .len (.cons (.var 1) .nil)) (.cons (.cst (.int .i64 64)) .nil)))) (.cst (.bool true)) (.node (.bin .neq) (.cons (.var 4) (.cons (.cst (.int .i64 0)) .nil)))) (.cst (.bool true)) (.node (.bin .neq) (.cons (.var 6) (.cons (.cst (.int .i64 0)) .nil)))) (.cst (.bool true)) (.node (.bin .neq) (.cons (.var 8) (.cons (.cst (.int .i64 16)) .nil)))) (.cst (.bool true)) (.node (.bin .neq) (.cons (.node .len (.cons (.var 9) .nil)) (.cons (.cst (.int .i64 30)) .nil))))
    (.seq (.sets [(0, (.cst (.bool false)))] [])
    .ret)
    .skip)
  (.seq (.seq (.hv [(24, (.node (.ld 7 true) (.cons (.node (.iAddr 7) (.cons (.var 9) (.cons (.cst (.int .i64 0)) .nil))) .nil)))] [] [] (some 23) (.mkSl [(.int .i64 0)]) (.cons (.cst (.int .i64 8)) (.cons (.cst (.int .i64 8)) .nil)))
  (.seq (.hv [] [] [] (some 25) (.call false) (.cons (.cst (.func (.func 18) #[] #[])) (.cons (.var 23) (.cons (.var 24) .nil))))
  (.seq (.hv [(27, (.node (.ext 1) (.cons (.var 25) .nil))), (26, (.node (.ext 0) (.cons (.var 25) .nil)))] [] [] (some 10) (.alloc [(.int .i64 0), (.int .i64 0), (.slice none 0 0)]) .nil)
  (.seq (.hv [] [] [] none (.st 3) (.cons (.var 10) (.cons (.var 26) .nil)))
  (.sets [(11, (.var 27))] [])))))
  (.seq (.seq (.hv [(28, (.node (.sl 1 false true false) (.cons (.var 1) (.cons (.cst (.int .i64 8)) .nil))))] [] [] (some 29) (.bSl [(.int .i64 0)] 8 [0, 1, 2, 3, 4, 5, 6, 7]) (.cons (.cst (.int .i64 8)) (.cons (.cst (.int .i64 9)) (.cons (.cst (.int .i64 21)) (.cons (.cst (.int .i64 22)) (.cons (.cst (.int .i64 23)) (.cons (.cst (.int .i64 26)) (.cons (.cst (.int .i64 27)) (.cons (.cst (.int .i64 28)) .nil)))))))))
  (.seq (.hv [] [] [] (some 30) (.call false) (.cons (.cst (.func (.func 17) #[] #[])) (.cons (.var 28) (.cons (.var 29) .nil))))
  (.sets [(0, (.pick (.pick (.pick (.pick (.pick (.pick (.pick (.pick (.pick (.pick (.pick (.pick (.var 30) (.node (.bin .eql) (.cons (.node (.ld 1 false) (.cons (.node (.iAddr 1) (.cons (.var 1) (.cons (.cst (.int .i64 32)) .nil))) .nil)) (.cons (.cst (.int .i64 7)) .nil))) (.cst (.bool false))) (.node (.bin .eql) (.cons (.node (.ld 1 false) (.cons (.node (.fAddr 0) (.cons (.var 3) .nil)) .nil)) (.cons (.cst (.int .i64 16)) .nil))) (.cst (.bool false))) (.node (.bin .eql) (.cons (.node (.ld 1 false) (.cons (.node (.fAddr 1) (.cons (.var 3) .nil)) .nil)) (.cons (.cst (.int .i64 16)) .nil))) (.cst (.bool false))) (.node (.bin .eql) (.cons (.node (.ld 1 false) (.cons (.node (.fAddr 0) (.cons (.var 5) .nil)) .nil)) (.cons (.cst (.int .i64 8)) .nil))) (.cst (.bool false))) (.node (.bin .eql) (.cons (.node (.ld 1 false) (.cons (.node (.fAddr 1) (.cons (.var 5) .nil)) .nil)) (.cons (.cst (.int .i64 32)) .nil))) (.cst (.bool false))) (.node (.bin .eql) (.cons (.var 11) (.cons (.cst (.int .i64 0)) .nil))) (.cst (.bool false))) (.node (.bin .eql) (.cons (.node (.ld 1 false) (.cons (.node (.fAddr 0) (.cons (.var 10) .nil)) .nil)) (.cons (.cst (.int .i64 10)) .nil))) (.cst (.bool false))) (.node (.bin .eql) (.cons (.node (.ld 1 false) (.cons (.node (.fAddr 1) (.cons (.var 10) .nil)) .nil)) (.cons (.cst (.int .i64 10)) .nil))) (.cst (.bool false))) (.node (.bin .eql) (.cons (.node .len (.cons (.node (.ld 1 false) (.cons (.node (.fAddr 2) (.cons (.var 10) .nil)) .nil)) .nil)) (.cons (.cst (.int .i64 100)) .nil))) (.cst (.bool false))) (.node (.ld 1 false) (.cons (.node (.iAddr 1) (.cons (.node (.ld 1 false) (.cons (.node (.fAddr 2) (.cons (.var 10) .nil)) .nil)) (.cons (.cst (.int .i64 0)) .nil))) .nil)) (.cst (.bool false))) (.node (.ld 1 false) (.cons (.node (.iAddr 1) (.cons (.node (.ld 1 false) (.cons (.node (.fAddr 2) (.cons (.var 10) .nil)) .nil)) (.cons (.cst (.int .i64 99)) .nil))) .nil)) (.cst (.bool false))) (.node (.un .not) (.cons (.node (.ld 1 false) (.cons (.node (.iAddr 1) (.cons (.node (.ld 1 false) (.cons (.node (.fAddr 2) (.cons (.var 10) .nil)) .nil)) (.cons (.cst (.int .i64 9)) .nil))) .nil)) .nil)) (.cst (.bool false))))] [])))
  .ret)))))))))
def cf14 : CF := ⟨0, 31, [(.var 0)], bd14⟩
def tr14 : List Nat := [0, 1, 2, 3, 4, 5, 6, 7, 8, 9, 10, 11, 13, 17, 18, 19, 21, 22, 23, 25, 26, 27, 28, 54, 57, 58, 59, 60, 62, 63, 64]
/-- barscan/dmlayout.Order -/
def bd15 : Stm :=
  (.seq (.sets [(3, (.cst (.int .i64 0))), (2, (.cst (.slice none 0 0)))] [])
  (.seq (.seq (.seq (.hv [] [] [] (some 7) (.call false) (.cons (.cst (.func (.func 10) #[] #[])) .nil))
  (.sets [(9, (.cst (.int .i64 0))), (8, (.node .len (.cons (.var 7) .nil)))] []))
  (.block 0 (.loop
    (.seq (.cond (.node (.bin .lss) (.cons (.var 9) (.cons (.var 8) .nil)))
      .skip
      (.exit 0))
    (.seq (.block 1 (.seq (.seq (.hv [(10, (.node (.ld 7 true) (.cons (.node (.iAddr 7) (.cons (.var 7) (.cons (.var 9) .nil))) .nil)))] [] [] (some 4) (.alloc [(.int .i64 0), (.int .i64 0), (.int .i64 0), (.int .i64 0), (.int .i64 0), (.int .i64 0), (.int .i64 0)]) .nil)
    (.hv [] [] [] none (.st 7) (.cons (.var 4) (.cons (.var 10) .nil))))
    (.seq (.seq (.hv [] [] [] (some 11) (.call false) (.cons (.cst (.func (.func 25) #[] #[])) (.cons (.node (.ld 7 true) (.cons (.var 4) .nil)) .nil)))
    (.sets [(6, (.node (.ext 1) (.cons (.var 11) .nil))), (5, (.node (.ext 0) (.cons (.var 11) .nil)))] []))
    (.cond (.pick (.node (.bin .eql) (.cons (.var 5) (.cons (.var 0) .nil))) (.node (.bin .eql) (.cons (.var 6) (.cons (.var 1) .nil))) (.cst (.bool false)))
      (.seq (.seq (.hv [] [] [] (some 12) (.call false) (.cons (.cst (.func (.func 26) #[] #[])) (.cons (.var 0) (.cons (.var 1) .nil))))
      (.sets [(3, (.cst (.int .i64 0))), (2, (.var 12))] []))
      .ret)
      .skip))))
    (.sets [(9, (.node (.bin .add) (.cons (.var 9) (.cons (.cst (.int .i64 1)) .nil))))] []))))))
  (.seq (.sets [(3, (.cst (.int .i64 14))), (2, (.cst (.slice none 0 0)))] [])
  .ret)))
def cf15 : CF := ⟨2, 13, [(.var 2), (.var 3)], bd15⟩
def tr15 : List Nat := [0, 1, 4, 5, 7, 8, 9, 10, 11, 12, 15, 18, 31]
/-- barscan/barscanref25.Order -/
def bd16 : Stm :=
  (.seq (.sets [(3, (.cst (.int .i64 0))), (2, (.cst (.slice none 0 0)))] [])
  (.seq (.seq (.hv [] [] [] (some 8) (.call false) (.cons (.cst (.func (.func 11) #[] #[])) .nil))
  (.sets [(4, (.var 8))] []))
  (.seq (.seq (.sets [(5, (.cst (.int .i64 0)))] [])
  (.block 0 (.loop
    (.seq (.cond (.node (.bin .lss) (.cons (.var 5) (.cons (.node .len (.cons (.var 4) .nil)) .nil)))
      .skip
      (.exit 0))
    (.seq (.block 1 (.seq (.seq (.hv [] [] [] (some 9) (.call false) (.cons (.cst (.func (.func 27) #[] #[])) (.cons (.node (.ld 7 true) (.cons (.node (.iAddr 7) (.cons (.var 4) (.cons (.var 5) .nil))) .nil)) .nil)))
    (.sets [(7, (.node (.ext 1) (.cons (.var 9) .nil))), (6, (.node (.ext 0) (.cons (.var 9) .nil)))] []))
    (.cond (.pick (.node (.bin .eql) (.cons (.var 6) (.cons (.var 0) .nil))) (.node (.bin .eql) (.cons (.var 7) (.cons (.var 1) .nil))) (.cst (.bool false)))
      (.seq (.seq (.hv [] [] [] (some 10) (.call false) (.cons (.cst (.func (.func 28) #[] #[])) (.cons (.var 0) (.cons (.var 1) .nil))))
      (.sets [(3, (.cst (.int .i64 0))), (2, (.var 10))] []))
      .ret)
      .skip)))
    (.sets [(5, (.node (.bin .add) (.cons (.var 5) (.cons (.cst (.int .i64 1)) .nil))))] []))))))
  (.seq (.sets [(3, (.cst (.int .i64 14))), (2, (.cst (.slice none 0 0)))] [])
  .ret))))
def cf16 : CF := ⟨2, 11, [(.var 2), (.var 3)], bd16⟩
def tr16 : List Nat := [0, 1, 4, 5, 6, 7, 8, 9, 10, 22, 35]
/-- barscan/barscanlaw25.same -/
def bd17 : Stm :=
  (.seq (.sets [(2, (.cst (.bool false)))] [])
  (.seq (.seq (.hv [] [] [] (some 3) (.call false) (.cons (.cst (.func (.func 29) #[] #[])) (.cons (.var 0) (.cons (.var 1) .nil))))
  (.sets [(2, (.var 3))] []))
  .ret))
def cf17 : CF := ⟨2, 4, [(.var 2)], bd17⟩
def tr17 : List Nat := [0, 1, 4, 7]
/-- barscan/dmlayout.Place -/
def bd18 : Stm :=
  (.seq (.seq (.hv [] [] [] (some 2) .box (.cons (.var 1) .nil))
  (.seq (.hv [] [] [] (some 3) (.alloc [(.int .i64 0), (.int .i64 0), (.slice none 0 0)]) .nil)
  (.sets [(4, (.cst (.int .i64 0)))] [])))
  (.seq (.seq (.hv [(14, (.node (.ld 7 true) (.cons (.var 2) .nil)))] [] [] (some 13) (.call true) (.cons (.cst (.func (.func 10) #[] #[])) .nil))
  (.seq (.hv [] [] [] (some 15) (.call false) (.cons (.cst (.func (.func 30) #[] #[])) (.cons (.var 13) (.cons (.var 14) .nil))))
  (.cond (.node (.un .not) (.cons (.var 15) .nil))
    (.seq (.seq (.hv [] [] [] none (.st 3) (.cons (.var 3) (.cons (.node (.build [(.int .i64 0), (.int .i64 0), (.slice none 0 0)] []) .nil) .nil)))
    (.sets [(4, (.cst (.int .i64 14)))] []))
    .ret)
    .skip)))
  (.seq (.cond (.node (.bin .neq) (.cons (.node .len (.cons (.var 0) .nil)) (.cons (.node (.bin .add) (.cons (.node (.ld 1 false) (.cons (.node (.fAddr 4) (.cons (.var 2) .nil)) .nil)) (.cons (.node (.ld 1 false) (.cons (.node (.fAddr 5) (.cons (.var 2) .nil)) .nil)) .nil))) .nil)))
    (.seq (.seq (.hv [] [] [] none (.st 3) (.cons (.var 3) (.cons (.node (.build [(.int .i64 0), (.int .i64 0), (.slice none 0 0)] []) .nil) .nil)))
    (.sets [(4, (.cst (.int .i64 7)))] []))
    .ret)
    .skip)
  (.seq (.seq (.sets [(18, (.cst (.int .i64 0))), (17, (.node .len (.cons (.var 0) .nil))), (16, (.var 0))] [])
  (.block 0 (.loop
    (.seq (.cond (.node (.bin .lss) (.cons (.var 18) (.cons (.var 17) .nil)))
      .skip
      (.exit 0))
    (.seq (.block 1 (.seq (.sets [(5, (.node (.ld 1 false) (.cons (.node (.iAddr 1) (.cons (.var 16) (.cons (.var 18) .nil))) .nil)))] [])
    (.cond (.pick (.node (.bin .lss) (.cons (.var 5) (.cons (.cst (.int .i64 0)) .nil))) (.cst (.bool true)) (.node (.bin .gtr) (.cons (.var 5) (.cons (.cst (.int .i64 255)) .nil))))
      (.seq (.seq (.hv [] [] [] none (.st 3) (.cons (.var 3) (.cons (.node (.build [(.int .i64 0), (.int .i64 0), (.slice none 0 0)] []) .nil) .nil)))
      (.sets [(4, (.cst (.int .i64 3)))] []))
      .ret)
      .skip)))
    (.sets [(18, (.node (.bin .add) (.cons (.var 18) (.cons (.cst (.int .i64 1)) .nil))))] []))))))
  (.seq (.seq (.hv [] [] [] (some 19) (.call false) (.cons (.cst (.func (.func 25) #[] #[])) (.cons (.node (.ld 7 true) (.cons (.var 2) .nil)) .nil)))
  (.sets [(7, (.node (.ext 1) (.cons (.var 19) .nil))), (6, (.node (.ext 0) (.cons (.var 19) .nil)))] []))
  (.seq (.seq (.hv [] [] [] (some 20) (.call false) (.cons (.cst (.func (.func 26) #[] #[])) (.cons (.var 6) (.cons (.var 7) .nil))))
  (.sets [(8, (.var 20))] []))
  (.seq (.seq (.hv [(22, (.node (.ld 1 false) (.cons (.node (.fAddr 0) (.cons (.var 2) .nil)) .nil))), (21, (.node (.ld 1 false) (.cons (.node (.fAddr 1) (.cons (.var 2) .nil)) .nil)))] [] [] (some 23) (.mkSl [(.bool false)]) (.cons (.node (.bin .mul) (.cons (.node (.ld 1 false) (.cons (.node (.fAddr 0) (.cons (.var 2) .nil)) .nil)) (.cons (.node (.ld 1 false) (.cons (.node (.fAddr 1) (.cons (.var 2) .nil)) .nil)) .nil))) (.cons (.node (.bin .mul) (.cons (.node (.ld 1 false) (.cons (.node (.fAddr 0) (.cons (.var 2) .nil)) .nil)) (.cons (.node (.ld 1 false) (.cons (.node (.fAddr 1) (.cons (.var 2) .nil)) .nil)) .nil))) .nil)))
  (.seq (.hv [(24, (.node (.build [(.int .i64 0), (.int .i64 0), (.slice none 0 0)] [(0, 1), (1, 1), (2, 1)]) (.cons (.var 21) (.cons (.var 22) (.cons (.var 23) .nil)))))] [] [] (some 9) (.alloc [(.int .i64 0), (.int .i64 0), (.slice none 0 0)]) .nil)
  (.hv [] [] [] none (.st 3) (.cons (.var 9) (.cons (.var 24) .nil)))))
  (.seq (.seq (.sets [(26, (.cst (.int .i64 0))), (25, (.node .len (.cons (.node (.ld 1 false) (.cons (.node (.fAddr 2) (.cons (.var 9) .nil)) .nil)) .nil)))] [])
  (.block 2 (.loop
    (.seq (.cond (.node (.bin .lss) (.cons (.var 26) (.cons (.var 25) .nil)))
      .skip
      (.exit 2))
    (.seq (.block 3 (.seq (.sets [(10, (.var 26))] [])
    (.seq (.seq (.hv [] [] [] (some 27) (.call false) (.cons (.cst (.func (.func 31) #[] #[])) (.cons (.node (.ld 7 true) (.cons (.var 2) .nil)) (.cons (.node (.bin .quo) (.cons (.var 10) (.cons (.node (.ld 1 false) (.cons (.node (.fAddr 0) (.cons (.var 9) .nil)) .nil)) .nil))) (.cons (.node (.bin .rem) (.cons (.var 10) (.cons (.node (.ld 1 false) (.cons (.node (.fAddr 0) (.cons (.var 9) .nil)) .nil)) .nil))) .nil)))))
    (.seq (.hv [] [] [] (some 11) (.alloc [(.bool false), (.bool false), (.int .i64 0)]) .nil)
    (.hv [] [] [] none (.st 3) (.cons (.var 11) (.cons (.var 27) .nil)))))
    (.seq (.cond (.node (.ld 1 false) (.cons (.node (.fAddr 0) (.cons (.var 11) .nil)) .nil))
      (.seq (.hv [] [] [] none (.st 1) (.cons (.node (.iAddr 1) (.cons (.node (.ld 1 false) (.cons (.node (.fAddr 2) (.cons (.var 9) .nil)) .nil)) (.cons (.var 10) .nil))) (.cons (.node (.ld 1 false) (.cons (.node (.fAddr 1) (.cons (.var 11) .nil)) .nil)) .nil)))
      (.exit 3))
      .skip)
    (.seq (.sets [(12, (.node (.ld 1 false) (.cons (.node (.iAddr 1) (.cons (.var 8) (.cons (.node (.ld 1 false) (.cons (.node (.fAddr 2) (.cons (.var 11) .nil)) .nil)) .nil))) .nil)))] [])
    (.cond (.node (.bin .geq) (.cons (.var 12) (.cons (.cst (.int .i64 0)) .nil)))
      (.hv [] [] [] none (.st 1) (.cons (.node (.iAddr 1) (.cons (.node (.ld 1 false) (.cons (.node (.fAddr 2) (.cons (.var 9) .nil)) .nil)) (.cons (.var 10) .nil))) (.cons (.node (.bin .eql) (.cons (.node (.bin .and) (.cons (.node (.bin .shr) (.cons (.node (.ld 1 false) (.cons (.node (.iAddr 1) (.cons (.var 0) (.cons (.node (.bin .quo) (.cons (.var 12) (.cons (.cst (.int .i64 8)) .nil))) .nil))) .nil)) (.cons (.node (.bin .sub) (.cons (.cst (.int .i64 7)) (.cons (.node (.bin .rem) (.cons (.var 12) (.cons (.cst (.int .i64 8)) .nil))) .nil))) .nil))) (.cons (.cst (.int .i64 1)) .nil))) (.cons (.cst (.int .i64 1)) .nil))) .nil)))
      (.seq (.hv [(29, (.var 10)), (28, (.node (.ld 1 false) (.cons (.node (.fAddr 2) (.cons (.var 9) .nil)) .nil)))] [] [] (some 30) (.call true) (.cons (.cst (.func (.func 32) #[] #[])) (.cons (.var 6) (.cons (.var 7) (.cons (.node (.ld 1 false) (.cons (.node (.fAddr 2) (.cons (.var 11) .nil)) .nil)) .nil)))))
      (.hv [] [] [] none (.st 1) (.cons (.node (.iAddr 1) (.cons (.var 28) (.cons (.var 29) .nil))) (.cons (.var 30) .nil))))))))))
    (.sets [(26, (.node (.bin .add) (.cons (.var 26) (.cons (.cst (.int .i64 1)) .nil))))] []))))))
  (.seq (.seq (.hv [] [] [] none (.st 3) (.cons (.var 3) (.cons (.node (.ld 3 true) (.cons (.var 9) .nil)) .nil)))
  (.sets [(4, (.cst (.int .i64 0)))] []))
  .ret)))))))))
def cf18 : CF := ⟨2, 31, [(.node (.ld 3 true) (.cons (.var 3) .nil)), (.var 4)], bd18⟩
def tr18 : List Nat := [0, 1, 3, 4, 5, 7, 8, 9, 10, 11, 12, 13, 14, 15, 16, 17, 29, 30, 31, 45, 50, 52, 54, 60, 61, 64, 65, 77, 109, 110, 115]
/-- barscan/barscanref25.Place -/
def bd19 : Stm :=
  (.seq (.seq (.hv [] [] [] (some 2) .box (.cons (.var 1) .nil))
  (.seq (.hv [] [] [] (some 3) (.alloc [(.int .i64 0), (.int .i64 0), (.slice none 0 0)]) .nil)
  (.sets [(4, (.cst (.int .i64 0)))] [])))
  (.seq (.sets [(5, (.cst (.bool false)))] [])
  (.seq (.seq (.hv [] [] [] (some 19) (.call false) (.cons (.cst (.func (.func 11) #[] #[])) .nil))
  (.sets [(6, (.var 19))] []))
  (.seq (.seq (.sets [(7, (.cst (.int .i64 0)))] [])
  (.block 0 (.loop
    (.seq (.cond (.node (.bin .lss) (.cons (.var 7) (.cons (.node .len (.cons (.var 6) .nil)) .nil)))
      .skip
      (.exit 0))
    (.seq (.block 1 (.sets [(5, (.pick (.var 5) (.cst (.bool true)) (.node (.eqA false [1, 1, 1, 1, 1, 1, 1]) (.cons (.node (.ld 7 true) (.cons (.node (.iAddr 7) (.cons (.var 6) (.cons (.var 7) .nil))) .nil)) (.cons (.node (.ld 7 true) (.cons (.var 2) .nil)) .nil)))))] []))
    (.sets [(7, (.node (.bin .add) (.cons (.var 7) (.cons (.cst (.int .i64 1)) .nil))))] []))))))
  (.seq (.cond (.node (.un .not) (.cons (.var 5) .nil))
    (.seq (.seq (.hv [] [] [] none (.st 3) (.cons (.var 3) (.cons (.node (.build [(.int .i64 0), (.int .i64 0), (.slice none 0 0)] []) .nil) .nil)))
    (.sets [(4, (.cst (.int .i64 14)))] []))
    .ret)
    .skip)
  (.seq (.cond (.node (.bin .neq) (.cons (.node .len (.cons (.var 0) .nil)) (.cons (.node (.bin .add) (.cons (.node (.ld 1 false) (.cons (.node (.fAddr 4) (.cons (.var 2) .nil)) .nil)) (.cons (.node (.ld 1 false) (.cons (.node (.fAddr 5) (.cons (.var 2) .nil)) .nil)) .nil))) .nil)))
    (.seq (.seq (.hv [] [] [] none (.st 3) (.cons (.var 3) (.cons (.node (.build [(.int .i64 0), (.int .i64 0), (.slice none 0 0)] []) .nil) .nil)))
    (.sets [(4, (.cst (.int .i64 7)))] []))
    .ret)
    .skip)
  (.seq (.seq (.sets [(8, (.cst (.int .i64 0)))] [])
  (.block 2 (.loop
    (.seq (.cond (.node (.bin .lss) (.cons (.var 8) (.cons (.node .len (.cons (.var 0) .nil)) .nil)))
      .skip
      (.exit 2))
    (.seq (.block 3 (.cond (.pick (.node (.bin .lss) (.cons (.node (.ld 1 false) (.cons (.node (.iAddr 1) (.cons (.var 0) (.cons (.var 8) .nil))) .nil)) (.cons (.cst (.int .i64 0)) .nil))) (.cst (.bool true)) (.node (.bin .gtr) (.cons (.node (.ld 1 false) (.cons (.node (.iAddr 1) (.cons (.var 0) (.cons (.var 8) .nil))) .nil)) (.cons (.cst (.int .i64 255)) .nil))))
      (.seq (.seq (.hv [] [] [] none (.st 3) (.cons (.var 3) (.cons (.node (.build [(.int .i64 0), (.int .i64 0), (.slice none 0 0)] []) .nil) .nil)))
      (.sets [(4, (.cst (.int .i64 3)))] []))
      .ret)
      .skip))
    (.sets [(8, (.node (.bin .add) (.cons (.var 8) (.cons (.cst (.int .i64 1)) .nil))))] []))))))
  (.seq (.seq (.hv [] [] [] (some 20) (.call false) (.cons (.cst (.func (.func 27) #[] #[])) (.cons (.node (.ld 7 true) (.cons (.var 2) .nil)) .nil)))
  (.sets [(10, (.node (.ext 1) (.cons (.var 20) .nil))), (9, (.node (.ext 0) (.cons (.var 20) .nil)))] []))
  (.seq (.seq (.hv [] [] [] (some 21) (.call false) (.cons (.cst (.func (.func 28) #[] #[])) (.cons (.var 9) (.cons (.var 10) .nil))))
  (.sets [(11, (.var 21))] []))
  (.seq (.seq (.hv [(22, (.node (.build [(.int .i64 0), (.int .i64 0), (.slice none 0 0)] [(0, 1), (1, 1)]) (.cons (.node (.ld 1 false) (.cons (.node (.fAddr 1) (.cons (.var 2) .nil)) .nil)) (.cons (.node (.ld 1 false) (.cons (.node (.fAddr 0) (.cons (.var 2) .nil)) .nil)) .nil))))] [] [] (some 12) (.alloc [(.int .i64 0), (.int .i64 0), (.slice none 0 0)]) .nil)
  (.hv [] [] [] none (.st 3) (.cons (.var 12) (.cons (.var 22) .nil))))
  (.seq (.seq (.sets [(13, (.cst (.int .i64 0)))] [])
  (.block 4 (.loop
    (.seq (.cond (.node (.bin .lss) (.cons (.var 13) (.cons (.node (.ld 1 false) (.cons (.node (.fAddr 1) (.cons (.var 12) .nil)) .nil)) .nil)))
      .skip
      (.exit 4))
    (.seq (.block 5 (.seq (.sets [(14, (.cst (.int .i64 0)))] [])
    (.block 6 (.loop
      (.seq (.cond (.node (.bin .lss) (.cons (.var 14) (.cons (.node (.ld 1 false) (.cons (.node (.fAddr 0) (.cons (.var 12) .nil)) .nil)) .nil)))
        .skip
        (.exit 6))
      (.seq (.block 7 (.seq (.seq (.hv [] [] [] (some 23) (.call false) (.cons (.cst (.func (.func 33) #[] #[])) (.cons (.node (.ld 7 true) (.cons (.var 2) .nil)) (.cons (.var 14) (.cons (.var 13) .nil)))))
      (.sets [(16, (.node (.ext 1) (.cons (.var 23) .nil))), (15, (.node (.ext 0) (.cons (.var 23) .nil)))] []))
      (.seq (.cond (.node (.un .not) (.cons (.var 15) .nil))
        (.seq (.seq (.hv [] [] [] (some 24) (.call false) (.cons (.cst (.func (.func 34) #[] #[])) (.cons (.node (.ld 7 true) (.cons (.var 2) .nil)) (.cons (.var 14) (.cons (.var 13) .nil)))))
        (.sets [(17, (.var 24))] []))
        (.seq (.sets [(18, (.node (.ld 1 false) (.cons (.node (.iAddr 1) (.cons (.var 11) (.cons (.var 17) .nil))) .nil)))] [])
        (.cond (.node (.bin .geq) (.cons (.var 18) (.cons (.cst (.int .i64 0)) .nil)))
          (.sets [(16, (.node (.bin .eql) (.cons (.node (.bin .rem) (.cons (.node (.bin .shr) (.cons (.node (.ld 1 false) (.cons (.node (.iAddr 1) (.cons (.var 0) (.cons (.node (.bin .quo) (.cons (.var 18) (.cons (.cst (.int .i64 8)) .nil))) .nil))) .nil)) (.cons (.node (.cvt .u64) (.cons (.node (.bin .sub) (.cons (.cst (.int .i64 7)) (.cons (.node (.bin .rem) (.cons (.var 18) (.cons (.cst (.int .i64 8)) .nil))) .nil))) .nil)) .nil))) (.cons (.cst (.int .i64 2)) .nil))) (.cons (.cst (.int .i64 1)) .nil))))] [])
          (.sets [(16, (.pick (.node (.bin .eql) (.cons (.var 17) (.cons (.node (.bin .sub) (.cons (.node (.bin .mul) (.cons (.var 9) (.cons (.var 10) .nil))) (.cons (.cst (.int .i64 1)) .nil))) .nil))) (.cst (.bool true)) (.node (.bin .eql) (.cons (.var 17) (.cons (.node (.bin .sub) (.cons (.node (.bin .sub) (.cons (.node (.bin .mul) (.cons (.var 9) (.cons (.var 10) .nil))) (.cons (.var 10) .nil))) (.cons (.cst (.int .i64 2)) .nil))) .nil)))))] []))))
        .skip)
      (.seq (.hv [(25, (.node (.ld 1 false) (.cons (.node (.fAddr 2) (.cons (.var 12) .nil)) .nil)))] [] [] (some 26) (.bSl [(.bool false)] 1 [0]) (.cons (.var 16) .nil))
      (.seq (.hv [] [] [] (some 27) (.app 1 [(.bool false)]) (.cons (.var 25) (.cons (.var 26) .nil)))
      (.hv [] [] [] none (.st 1) (.cons (.node (.fAddr 2) (.cons (.var 12) .nil)) (.cons (.var 27) .nil))))))))
      (.sets [(14, (.node (.bin .add) (.cons (.var 14) (.cons (.cst (.int .i64 1)) .nil))))] [])))))))
    (.sets [(13, (.node (.bin .add) (.cons (.var 13) (.cons (.cst (.int .i64 1)) .nil))))] []))))))
  (.seq (.seq (.hv [] [] [] none (.st 3) (.cons (.var 3) (.cons (.node (.ld 3 true) (.cons (.var 12) .nil)) .nil)))
  (.sets [(4, (.cst (.int .i64 0)))] []))
  .ret))))))))))))
def cf19 : CF := ⟨2, 28, [(.node (.ld 3 true) (.cons (.var 3) .nil)), (.var 4)], bd19⟩
def tr19 : List Nat := [0, 1, 3, 4, 5, 6, 7, 8, 9, 10, 11, 12, 13, 14, 15, 16, 17, 18, 19, 20, 69, 74, 79, 96, 104, 140, 142, 143]
/-- barscan/barscanref25.Same -/
def bd20 : Stm :=
  (.seq (.seq (.hv [] [] [] (some 2) .box (.cons (.var 0) .nil))
  (.seq (.hv [] [] [] (some 3) .box (.cons (.var 1) .nil))
  (.sets [(4, (.cst (.bool false)))] [])))
  (.seq (.cond (.pick (.pick (.node (.bin .neq) (.cons (.node (.ld 1 false) (.cons (.node (.fAddr 0) (.cons (.var 2) .nil)) .nil)) (.cons (.node (.ld 1 false) (.cons (.node (.fAddr 0) (.cons (.var 3) .nil)) .nil)) .nil))) (.cst (.bool true)) (.node (.bin .neq) (.cons (.node (.ld 1 false) (.cons (.node (.fAddr 1) (.cons (.var 2) .nil)) .nil)) (.cons (.node (.ld 1 false) (.cons (.node (.fAddr 1) (.cons (.var 3) .nil)) .nil)) .nil)))) (.cst (.bool true)) (.node (.bin .neq) (.cons (.node .len (.cons (.node (.ld 1 false) (.cons (.node (.fAddr 2) (.cons (.var 2) .nil)) .nil)) .nil)) (.cons (.node .len (.cons (.node (.ld 1 false) (.cons (.node (.fAddr 2) (.cons (.var 3) .nil)) .nil)) .nil)) .nil))))
    (.seq (.sets [(4, (.cst (.bool false)))] [])
    .ret)
    .skip)
  (.seq (.seq (.sets [(5, (.cst (.int .i64 0)))] [])
  (.block 0 (.loop
    (.seq (.cond (.node (.bin .lss) (.cons (.var 5) (.cons (.node .len (.cons (.node (.ld 1 false) (.cons (.node (.fAddr 2) (.cons (.var 2) .nil)) .nil)) .nil)) .nil)))
      .skip
      (.exit 0))
    (.seq (.block 1 (.cond (.node (.eqB true) (.cons (.node (.ld 1 false) (.cons (.node (.iAddr 1) (.cons (.node (.ld 1 false) (.cons (.node (.fAddr 2) (.cons (.var 2) .nil)) .nil)) (.cons (.var 5) .nil))) .nil)) (.cons (.node (.ld 1 false) (.cons (.node (.iAddr 1) (.cons (.node (.ld 1 false) (.cons (.node (.fAddr 2) (.cons (.var 3) .nil)) .nil)) (.cons (.var 5) .nil))) .nil)) .nil)))
      (.seq (.sets [(4, (.cst (.bool false)))] [])
      .ret)
      .skip))
    (.sets [(5, (.node (.bin .add) (.cons (.var 5) (.cons (.cst (.int .i64 1)) .nil))))] []))))))
  (.seq (.sets [(4, (.cst (.bool true)))] [])
  .ret))))
def cf20 : CF := ⟨2, 6, [(.var 4)], bd20⟩
def tr20 : List Nat := [0, 1, 2, 3, 4, 5]
/-- barscan/barscanlaw25.mapping -/
def bd21 : Stm :=
  (.seq (.seq (.hv [] [] [] (some 1) .box (.cons (.var 0) .nil))
  (.sets [(3, (.cst (.int .i64 0))), (2, (.cst (.int .i64 0)))] []))
  (.seq (.cond (.pick (.pick (.pick (.pick (.pick (.pick (.pick (.node (.bin .lss) (.cons (.node (.ld 1 false) (.cons (.node (.fAddr 2) (.cons (.var 1) .nil)) .nil)) (.cons (.cst (.int .i64 1)) .nil))) (.cst (.bool true)) (.node (.bin .gtr) (.cons (.node (.ld 1 false) (.cons (.node (.fAddr 2) (.cons (.var 1) .nil)) .nil)) (.cons (.cst (.int .i64 200)) .nil)))) (.cst (.bool true)) (.node (.bin .lss) (.cons (.node (.ld 1 false) (.cons (.node (.fAddr 3) (.cons (.var 1) .nil)) .nil)) (.cons (.cst (.int .i64 1)) .nil)))) (.cst (.bool true)) (.node (.bin .gtr) (.cons (.node (.ld 1 false) (.cons (.node (.fAddr 3) (.cons (.var 1) .nil)) .nil)) (.cons (.cst (.int .i64 200)) .nil)))) (.cst (.bool true)) (.node (.bin .lss) (.cons (.node (.ld 1 false) (.cons (.node (.fAddr 0) (.cons (.var 1) .nil)) .nil)) (.cons (.cst (.int .i64 0)) .nil)))) (.cst (.bool true)) (.node (.bin .gtr) (.cons (.node (.ld 1 false) (.cons (.node (.fAddr 0) (.cons (.var 1) .nil)) .nil)) (.cons (.cst (.int .i64 200)) .nil)))) (.cst (.bool true)) (.node (.bin .lss) (.cons (.node (.ld 1 false) (.cons (.node (.fAddr 1) (.cons (.var 1) .nil)) .nil)) (.cons (.cst (.int .i64 0)) .nil)))) (.cst (.bool true)) (.node (.bin .gtr) (.cons (.node (.ld 1 false) (.cons (.node (.fAddr 1) (.cons (.var 1) .nil)) .nil)) (.cons (.cst (.int .i64 200)) .nil))))
    (.seq (.sets [(3, (.cst (.int .i64 0))), (2, (.cst (.int .i64 0)))] [])
    .ret)
    .skip)
  (.seq (.sets [(3, (.node (.bin .mul) (.cons (.node (.bin .quo) (.cons (.node (.ld 1 false) (.cons (.node (.fAddr 1) (.cons (.var 1) .nil)) .nil)) (.cons (.node (.bin .add) (.cons (.node (.ld 1 false) (.cons (.node (.fAddr 3) (.cons (.var 1) .nil)) .nil)) (.cons (.cst (.int .i64 2)) .nil))) .nil))) (.cons (.node (.ld 1 false) (.cons (.node (.fAddr 3) (.cons (.var 1) .nil)) .nil)) .nil)))), (2, (.node (.bin .mul) (.cons (.node (.bin .quo) (.cons (.node (.ld 1 false) (.cons (.node (.fAddr 0) (.cons (.var 1) .nil)) .nil)) (.cons (.node (.bin .add) (.cons (.node (.ld 1 false) (.cons (.node (.fAddr 2) (.cons (.var 1) .nil)) .nil)) (.cons (.cst (.int .i64 2)) .nil))) .nil))) (.cons (.node (.ld 1 false) (.cons (.node (.fAddr 2) (.cons (.var 1) .nil)) .nil)) .nil))))] [])
  .ret)))
def cf21 : CF := ⟨1, 4, [(.var 2), (.var 3)], bd21⟩
def tr21 : List Nat := [0, 1, 2, 3]
/-- barscan/dmlayout.Extract -/
def bd22 : Stm :=
  (.seq (.seq (.hv [] [] [] (some 1) .box (.cons (.var 0) .nil))
  (.seq (.hv [(2, (.cst (.slice none 0 0)))] [] [] (some 3) (.alloc [(.int .i64 0), (.int .i64 0), (.int .i64 0), (.int .i64 0), (.int .i64 0), (.int .i64 0), (.int .i64 0)]) .nil)
  (.sets [(4, (.cst (.int .i64 0)))] [])))
  (.seq (.seq (.hv [] [] [] (some 14) (.call false) (.cons (.cst (.func (.func 35) #[] #[])) (.cons (.node (.ld 3 true) (.cons (.var 1) .nil)) .nil)))
  (.cond (.node (.un .not) (.cons (.var 14) .nil))
    (.seq (.seq (.hv [(2, (.cst (.slice none 0 0)))] [] [] none (.st 7) (.cons (.var 3) (.cons (.node (.build [(.int .i64 0), (.int .i64 0), (.int .i64 0), (.int .i64 0), (.int .i64 0), (.int .i64 0), (.int .i64 0)] []) .nil) .nil)))
    (.sets [(4, (.cst (.int .i64 1)))] []))
    .ret)
    .skip))
  (.seq (.seq (.hv [] [] [] (some 15) (.call false) (.cons (.cst (.func (.func 10) #[] #[])) .nil))
  (.sets [(5, (.var 15))] []))
  (.seq (.seq (.hv [] [] [] (some 16) (.call false) (.cons (.cst (.func (.func 36) #[] #[])) (.cons (.var 5) (.cons (.node (.mkF 37 0) (.cons (.var 1) .nil)) .nil))))
  (.sets [(6, (.var 16))] []))
  (.seq (.cond (.node (.bin .lss) (.cons (.var 6) (.cons (.cst (.int .i64 0)) .nil)))
    (.seq (.seq (.hv [(2, (.cst (.slice none 0 0)))] [] [] none (.st 7) (.cons (.var 3) (.cons (.node (.build [(.int .i64 0), (.int .i64 0), (.int .i64 0), (.int .i64 0), (.int .i64 0), (.int .i64 0), (.int .i64 0)] []) .nil) .nil)))
    (.sets [(4, (.cst (.int .i64 23)))] []))
    .ret)
    .skip)
  (.seq (.seq (.hv [(17, (.node (.ld 7 true) (.cons (.node (.iAddr 7) (.cons (.var 5) (.cons (.var 6) .nil))) .nil)))] [] [] (some 7) (.alloc [(.int .i64 0), (.int .i64 0), (.int .i64 0), (.int .i64 0), (.int .i64 0), (.int .i64 0), (.int .i64 0)]) .nil)
  (.hv [] [] [] none (.st 7) (.cons (.var 7) (.cons (.var 17) .nil))))
  (.seq (.seq (.hv [] [] [] (some 18) (.call false) (.cons (.cst (.func (.func 25) #[] #[])) (.cons (.node (.ld 7 true) (.cons (.var 7) .nil)) .nil)))
  (.seq (.hv [] [] [] (some 19) (.call false) (.cons (.cst (.func (.func 26) #[] #[])) (.cons (.node (.ext 0) (.cons (.var 18) .nil)) (.cons (.node (.ext 1) (.cons (.var 18) .nil)) .nil))))
  (.sets [(8, (.var 19))] [])))
  (.seq (.seq (.hv [] [] [] (some 20) (.mkSl [(.int .i64 0)]) (.cons (.node (.bin .add) (.cons (.node (.ld 1 false) (.cons (.node (.fAddr 4) (.cons (.var 7) .nil)) .nil)) (.cons (.node (.ld 1 false) (.cons (.node (.fAddr 5) (.cons (.var 7) .nil)) .nil)) .nil))) (.cons (.node (.bin .add) (.cons (.node (.ld 1 false) (.cons (.node (.fAddr 4) (.cons (.var 7) .nil)) .nil)) (.cons (.node (.ld 1 false) (.cons (.node (.fAddr 5) (.cons (.var 7) .nil)) .nil)) .nil))) .nil)))
  (.sets [(9, (.var 20))] []))
  (.seq (.seq (.sets [(23, (.cst (.int .i64 0))), (22, (.node .len (.cons (.node (.ld 1 false) (.cons (.node (.fAddr 2) (.cons (.var 1) .nil)) .nil)) .nil))), (21, (.node (.ld 1 false) (.cons (.node (.fAddr 2) (.cons (.var 1) .nil)) .nil)))] [])
  (.block 0 (.loop
    (.seq (.cond (.node (.bin .lss) (.cons (.var 23) (.cons (.var 22) .nil)))
      .skip
      (.exit 0))
    (.seq (.block 1 (.seq (.sets [(11, (.node (.ld 1 false) (.cons (.node (.iAddr 1) (.cons (.var 21) (.cons (.var 23) .nil))) .nil))), (10, (.var 23))] [])
    (.seq (.seq (.hv [] [] [] (some 24) (.call false) (.cons (.cst (.func (.func 31) #[] #[])) (.cons (.node (.ld 7 true) (.cons (.var 7) .nil)) (.cons (.node (.bin .quo) (.cons (.var 10) (.cons (.node (.ld 1 false) (.cons (.node (.fAddr 0) (.cons (.var 1) .nil)) .nil)) .nil))) (.cons (.node (.bin .rem) (.cons (.var 10) (.cons (.node (.ld 1 false) (.cons (.node (.fAddr 0) (.cons (.var 1) .nil)) .nil)) .nil))) .nil)))))
    (.seq (.hv [] [] [] (some 12) (.alloc [(.bool false), (.bool false), (.int .i64 0)]) .nil)
    (.hv [] [] [] none (.st 3) (.cons (.var 12) (.cons (.var 24) .nil)))))
    (.seq (.cond (.node (.ld 1 false) (.cons (.node (.fAddr 0) (.cons (.var 12) .nil)) .nil))
      (.seq (.cond (.node (.eqB true) (.cons (.var 11) (.cons (.node (.ld 1 false) (.cons (.node (.fAddr 1) (.cons (.var 12) .nil)) .nil)) .nil)))
        (.seq (.seq (.hv [(2, (.cst (.slice none 0 0)))] [] [] none (.st 7) (.cons (.var 3) (.cons (.node (.build [(.int .i64 0), (.int .i64 0), (.int .i64 0), (.int .i64 0), (.int .i64 0), (.int .i64 0), (.int .i64 0)] []) .nil) .nil)))
        (.sets [(4, (.cst (.int .i64 18)))] []))
        .ret)
        .skip)
      (.exit 1))
      .skip)
    (.seq (.sets [(13, (.node (.ld 1 false) (.cons (.node (.iAddr 1) (.cons (.var 8) (.cons (.node (.ld 1 false) (.cons (.node (.fAddr 2) (.cons (.var 12) .nil)) .nil)) .nil))) .nil)))] [])
    (.cond (.pick (.node (.bin .geq) (.cons (.var 13) (.cons (.cst (.int .i64 0)) .nil))) (.var 11) (.cst (.bool false)))
      (.hv [] [] [] none (.st 1) (.cons (.node (.iAddr 1) (.cons (.var 9) (.cons (.node (.bin .quo) (.cons (.var 13) (.cons (.cst (.int .i64 8)) .nil))) .nil))) (.cons (.node (.bin .or) (.cons (.node (.ld 1 false) (.cons (.node (.iAddr 1) (.cons (.var 9) (.cons (.node (.bin .quo) (.cons (.var 13) (.cons (.cst (.int .i64 8)) .nil))) .nil))) .nil)) (.cons (.node (.bin .shl) (.cons (.cst (.int .i64 1)) (.cons (.node (.bin .sub) (.cons (.cst (.int .i64 7)) (.cons (.node (.bin .rem) (.cons (.var 13) (.cons (.cst (.int .i64 8)) .nil))) .nil))) .nil))) .nil))) .nil)))
      .skip))))))
    (.sets [(23, (.node (.bin .add) (.cons (.var 23) (.cons (.cst (.int .i64 1)) .nil))))] []))))))
  (.seq (.seq (.hv [(2, (.var 9))] [] [] none (.st 7) (.cons (.var 3) (.cons (.node (.ld 7 true) (.cons (.var 7) .nil)) .nil)))
  (.sets [(4, (.cst (.int .i64 0)))] []))
  .ret))))))))))
def cf22 : CF := ⟨1, 25, [(.var 2), (.node (.ld 7 true) (.cons (.var 3) .nil)), (.var 4)], bd22⟩
def tr22 : List Nat := [0, 1, 2, 3, 4, 5, 6, 7, 8, 9, 10, 11, 12, 13, 15, 18, 21, 28, 30, 33, 39, 41, 42, 43, 57]
/-- barscan/barscanref25.Extract -/
def bd23 : Stm :=
  (.seq (.seq (.hv [] [] [] (some 1) .box (.cons (.var 0) .nil))
  (.seq (.hv [(2, (.cst (.slice none 0 0)))] [] [] (some 3) (.alloc [(.int .i64 0), (.int .i64 0), (.int .i64 0), (.int .i64 0), (.int .i64 0), (.int .i64 0), (.int .i64 0)]) .nil)
  (.sets [(4, (.cst (.int .i64 0)))] [])))
  (.seq (.seq (.hv [] [] [] (some 18) (.call false) (.cons (.cst (.func (.func 38) #[] #[])) (.cons (.node (.ld 3 true) (.cons (.var 1) .nil)) .nil)))
  (.cond (.node (.un .not) (.cons (.var 18) .nil))
    (.seq (.seq (.hv [(2, (.cst (.slice none 0 0)))] [] [] none (.st 7) (.cons (.var 3) (.cons (.node (.build [(.int .i64 0), (.int .i64 0), (.int .i64 0), (.int .i64 0), (.int .i64 0), (.int .i64 0), (.int .i64 0)] []) .nil) .nil)))
    (.sets [(4, (.cst (.int .i64 1)))] []))
    .ret)
    .skip))
  (.seq (.seq (.hv [(19, (.node (.build [(.int .i64 0), (.int .i64 0), (.int .i64 0), (.int .i64 0), (.int .i64 0), (.int .i64 0), (.int .i64 0)] []) .nil))] [] [] (some 5) (.alloc [(.int .i64 0), (.int .i64 0), (.int .i64 0), (.int .i64 0), (.int .i64 0), (.int .i64 0), (.int .i64 0)]) .nil)
  (.hv [] [] [] none (.st 7) (.cons (.var 5) (.cons (.var 19) .nil))))
  (.seq (.seq (.hv [] [] [] (some 20) (.call false) (.cons (.cst (.func (.func 11) #[] #[])) .nil))
  (.sets [(6, (.var 20))] []))
  (.seq (.seq (.sets [(7, (.cst (.int .i64 0)))] [])
  (.block 0 (.loop
    (.seq (.cond (.node (.bin .lss) (.cons (.var 7) (.cons (.node .len (.cons (.var 6) .nil)) .nil)))
      .skip
      (.exit 0))
    (.seq (.block 1 (.cond (.pick (.node (.bin .eql) (.cons (.node (.ld 1 false) (.cons (.node (.fAddr 0) (.cons (.node (.iAddr 7) (.cons (.var 6) (.cons (.var 7) .nil))) .nil)) .nil)) (.cons (.node (.ld 1 false) (.cons (.node (.fAddr 1) (.cons (.var 1) .nil)) .nil)) .nil))) (.node (.bin .eql) (.cons (.node (.ld 1 false) (.cons (.node (.fAddr 1) (.cons (.node (.iAddr 7) (.cons (.var 6) (.cons (.var 7) .nil))) .nil)) .nil)) (.cons (.node (.ld 1 false) (.cons (.node (.fAddr 0) (.cons (.var 1) .nil)) .nil)) .nil))) (.cst (.bool false)))
      (.hv [] [] [] none (.st 7) (.cons (.var 5) (.cons (.node (.ld 7 true) (.cons (.node (.iAddr 7) (.cons (.var 6) (.cons (.var 7) .nil))) .nil)) .nil)))
      .skip))
    (.sets [(7, (.node (.bin .add) (.cons (.var 7) (.cons (.cst (.int .i64 1)) .nil))))] []))))))
  (.seq (.cond (.node (.bin .eql) (.cons (.node (.ld 1 false) (.cons (.node (.fAddr 0) (.cons (.var 5) .nil)) .nil)) (.cons (.cst (.int .i64 0)) .nil)))
    (.seq (.seq (.hv [(2, (.cst (.slice none 0 0)))] [] [] none (.st 7) (.cons (.var 3) (.cons (.node (.build [(.int .i64 0), (.int .i64 0), (.int .i64 0), (.int .i64 0), (.int .i64 0), (.int .i64 0), (.int .i64 0)] []) .nil) .nil)))
    (.sets [(4, (.cst (.int .i64 23)))] []))
    .ret)
    .skip)
  (.seq (.seq (.hv [] [] [] (some 21) (.call false) (.cons (.cst (.func (.func 27) #[] #[])) (.cons (.node (.ld 7 true) (.cons (.var 5) .nil)) .nil)))
  (.sets [(9, (.node (.ext 1) (.cons (.var 21) .nil))), (8, (.node (.ext 0) (.cons (.var 21) .nil)))] []))
  (.seq (.seq (.hv [] [] [] (some 22) (.call false) (.cons (.cst (.func (.func 28) #[] #[])) (.cons (.var 8) (.cons (.var 9) .nil))))
  (.sets [(10, (.var 22))] []))
  (.seq (.seq (.hv [] [] [] (some 23) (.mkSl [(.int .i64 0)]) (.cons (.node (.bin .add) (.cons (.node (.ld 1 false) (.cons (.node (.fAddr 4) (.cons (.var 5) .nil)) .nil)) (.cons (.node (.ld 1 false) (.cons (.node (.fAddr 5) (.cons (.var 5) .nil)) .nil)) .nil))) (.cons (.node (.bin .add) (.cons (.node (.ld 1 false) (.cons (.node (.fAddr 4) (.cons (.var 5) .nil)) .nil)) (.cons (.node (.ld 1 false) (.cons (.node (.fAddr 5) (.cons (.var 5) .nil)) .nil)) .nil))) .nil)))
  (.sets [(11, (.var 23))] []))
  (.seq (.seq (.sets [(12, (.cst (.int .i64 0)))] [])
  (.block 2 (.loop
    (.seq (.cond (.node (.bin .lss) (.cons (.var 12) (.cons (.node .len (.cons (.node (.ld 1 false) (.cons (.node (.fAddr 2) (.cons (.var 1) .nil)) .nil)) .nil)) .nil)))
      .skip
      (.exit 2))
    (.seq (.block 3 (.seq (.sets [(13, (.node (.bin .rem) (.cons (.var 12) (.cons (.node (.ld 1 false) (.cons (.node (.fAddr 0) (.cons (.var 1) .nil)) .nil)) .nil))))] [])
    (.seq (.sets [(14, (.node (.bin .quo) (.cons (.var 12) (.cons (.node (.ld 1 false) (.cons (.node (.fAddr 0) (.cons (.var 1) .nil)) .nil)) .nil))))] [])
    (.seq (.seq (.hv [] [] [] (some 24) (.call false) (.cons (.cst (.func (.func 33) #[] #[])) (.cons (.node (.ld 7 true) (.cons (.var 5) .nil)) (.cons (.var 13) (.cons (.var 14) .nil)))))
    (.sets [(16, (.node (.ext 1) (.cons (.var 24) .nil))), (15, (.node (.ext 0) (.cons (.var 24) .nil)))] []))
    (.seq (.cond (.pick (.var 15) (.node (.eqB true) (.cons (.var 16) (.cons (.node (.ld 1 false) (.cons (.node (.iAddr 1) (.cons (.node (.ld 1 false) (.cons (.node (.fAddr 2) (.cons (.var 1) .nil)) .nil)) (.cons (.var 12) .nil))) .nil)) .nil))) (.cst (.bool false)))
      (.seq (.seq (.hv [(2, (.cst (.slice none 0 0)))] [] [] none (.st 7) (.cons (.var 3) (.cons (.node (.build [(.int .i64 0), (.int .i64 0), (.int .i64 0), (.int .i64 0), (.int .i64 0), (.int .i64 0), (.int .i64 0)] []) .nil) .nil)))
      (.sets [(4, (.cst (.int .i64 18)))] []))
      .ret)
      .skip)
    (.cond (.pick (.node (.un .not) (.cons (.var 15) .nil)) (.node (.ld 1 false) (.cons (.node (.iAddr 1) (.cons (.node (.ld 1 false) (.cons (.node (.fAddr 2) (.cons (.var 1) .nil)) .nil)) (.cons (.var 12) .nil))) .nil)) (.cst (.bool false)))
      (.seq (.seq (.hv [(25, (.var 10))] [] [] (some 26) (.call false) (.cons (.cst (.func (.func 34) #[] #[])) (.cons (.node (.ld 7 true) (.cons (.var 5) .nil)) (.cons (.var 13) (.cons (.var 14) .nil)))))
      (.sets [(17, (.node (.ld 1 false) (.cons (.node (.iAddr 1) (.cons (.var 25) (.cons (.var 26) .nil))) .nil)))] []))
      (.cond (.node (.bin .geq) (.cons (.var 17) (.cons (.cst (.int .i64 0)) .nil)))
        (.hv [] [] [] none (.st 1) (.cons (.node (.iAddr 1) (.cons (.var 11) (.cons (.node (.bin .quo) (.cons (.var 17) (.cons (.cst (.int .i64 8)) .nil))) .nil))) (.cons (.node (.bin .add) (.cons (.node (.ld 1 false) (.cons (.node (.iAddr 1) (.cons (.var 11) (.cons (.node (.bin .quo) (.cons (.var 17) (.cons (.cst (.int .i64 8)) .nil))) .nil))) .nil)) (.cons (.node (.bin .shl) (.cons (.cst (.int .i64 1)) (.cons (.node (.cvt .u64) (.cons (.node (.bin .sub) (.cons (.cst (.int .i64 7)) (.cons (.node (.bin .rem) (.cons (.var 17) (.cons (.cst (.int .i64 8)) .nil))) .nil))) .nil)) .nil))) .nil))) .nil)))
        .skip))
      .skip))))))
    (.sets [(12, (.node (.bin .add) (.cons (.var 12) (.cons (.cst (.int .i64 1)) .nil))))] []))))))
  (.seq (.seq (.hv [(2, (.var 11))] [] [] none (.st 7) (.cons (.var 3) (.cons (.node (.ld 7 true) (.cons (.var 5) .nil)) .nil)))
  (.sets [(4, (.cst (.int .i64 0)))] []))
  .ret)))))))))))
def cf23 : CF := ⟨1, 27, [(.var 2), (.node (.ld 7 true) (.cons (.var 3) .nil)), (.var 4)], bd23⟩
def tr23 : List Nat := [0, 1, 2, 3, 4, 5, 6, 7, 8, 9, 10, 11, 12, 13, 14, 15, 16, 17, 19, 22, 23, 58, 63, 69, 89, 112, 116]
/-- barscan/barscanref25.row -/
def bd24 : Stm :=
  (.seq (.seq (.hv [] [] [] (some 1) .box (.cons (.var 0) .nil))
  (.hv [] [] [] (some 2) (.alloc [(.int .i64 0), (.int .i64 0), (.int .i64 0), (.int .i64 0), (.int .i64 0), (.int .i64 0), (.int .i64 0)]) .nil))
  (.seq (.hv [] [] [] none (.st 7) (.cons (.var 2) (.cons (.node (.build [(.int .i64 0), (.int .i64 0), (.int .i64 0), (.int .i64 0), (.int .i64 0), (.int .i64 0), (.int .i64 0)] [(0, 1), (1, 1), (2, 1), (3, 1), (4, 1), (5, 1), (6, 1)]) (.cons (.node (.ld 1 false) (.cons (.node (.iAddrA 7 1) (.cons (.var 1) (.cons (.cst (.int .i64 0)) .nil))) .nil)) (.cons (.node (.ld 1 false) (.cons (.node (.iAddrA 7 1) (.cons (.var 1) (.cons (.cst (.int .i64 1)) .nil))) .nil)) (.cons (.node (.ld 1 false) (.cons (.node (.iAddrA 7 1) (.cons (.var 1) (.cons (.cst (.int .i64 2)) .nil))) .nil)) (.cons (.node (.ld 1 false) (.cons (.node (.iAddrA 7 1) (.cons (.var 1) (.cons (.cst (.int .i64 3)) .nil))) .nil)) (.cons (.node (.ld 1 false) (.cons (.node (.iAddrA 7 1) (.cons (.var 1) (.cons (.cst (.int .i64 4)) .nil))) .nil)) (.cons (.node (.ld 1 false) (.cons (.node (.iAddrA 7 1) (.cons (.var 1) (.cons (.cst (.int .i64 5)) .nil))) .nil)) (.cons (.node (.ld 1 false) (.cons (.node (.iAddrA 7 1) (.cons (.var 1) (.cons (.cst (.int .i64 6)) .nil))) .nil)) .nil)))))))) .nil)))
  .ret))
def cf24 : CF := ⟨1, 3, [(.node (.ld 7 true) (.cons (.var 2) .nil))], bd24⟩
def tr24 : List Nat := [0, 1, 2]
/-- barscan/dmlayout.mapping -/
def bd25 : Stm :=
  (.seq (.seq (.hv [] [] [] (some 1) .box (.cons (.var 0) .nil))
  (.sets [(3, (.cst (.int .i64 0))), (2, (.cst (.int .i64 0)))] []))
  (.seq (.sets [(3, (.node (.bin .mul) (.cons (.node (.bin .quo) (.cons (.node (.ld 1 false) (.cons (.node (.fAddr 1) (.cons (.var 1) .nil)) .nil)) (.cons (.node (.bin .add) (.cons (.node (.ld 1 false) (.cons (.node (.fAddr 3) (.cons (.var 1) .nil)) .nil)) (.cons (.cst (.int .i64 2)) .nil))) .nil))) (.cons (.node (.ld 1 false) (.cons (.node (.fAddr 3) (.cons (.var 1) .nil)) .nil)) .nil)))), (2, (.node (.bin .mul) (.cons (.node (.bin .quo) (.cons (.node (.ld 1 false) (.cons (.node (.fAddr 0) (.cons (.var 1) .nil)) .nil)) (.cons (.node (.bin .add) (.cons (.node (.ld 1 false) (.cons (.node (.fAddr 2) (.cons (.var 1) .nil)) .nil)) (.cons (.cst (.int .i64 2)) .nil))) .nil))) (.cons (.node (.ld 1 false) (.cons (.node (.fAddr 2) (.cons (.var 1) .nil)) .nil)) .nil))))] [])
  .ret))
def cf25 : CF := ⟨1, 4, [(.var 2), (.var 3)], bd25⟩
def tr25 : List Nat := [0, 1, 2, 3]
/-- barscan/dmlayout.order -/
def bd26 : Stm :=
  (.seq (.sets [(2, (.cst (.slice none 0 0)))] [])
  (.seq (.seq (.hv [(11, (.var 1)), (10, (.var 0))] [] [] (some 12) (.bSl [(.int .i64 0)] 1 [0]) (.cons (.cst (.int .i64 (-1))) .nil))
  (.seq (.hv [] [] [] (some 13) (.call false) (.cons (.cst (.func (.func 39) #[] #[])) (.cons (.var 12) (.cons (.node (.bin .mul) (.cons (.var 0) (.cons (.var 1) .nil))) .nil))))
  (.seq (.hv [] [] [] (some 14) .box (.cons (.node (.build [(.int .i64 0), (.int .i64 0), (.slice none 0 0), (.int .i64 0)] [(0, 1), (1, 1), (2, 1)]) (.cons (.var 10) (.cons (.var 11) (.cons (.var 13) .nil)))) .nil))
  (.sets [(3, (.var 14))] []))))
  (.seq (.sets [(4, (.node (.mkF 40 1) (.cons (.var 3) .nil)))] [])
  (.seq (.sets [(6, (.cst (.int .i64 0))), (5, (.cst (.int .i64 4)))] [])
  (.seq (.seq (.sets [(7, (.cst (.bool true)))] [])
  (.block 0 (.loop
    (.seq (.cond (.var 7)
      .skip
      (.exit 0))
    (.seq (.block 1 (.seq (.hv [] [] [] none (.call false) (.cons (.cst (.func (.func 41) #[] #[])) (.cons (.var 3) (.cons (.var 5) (.cons (.var 6) (.cons (.var 4) .nil))))))
    (.seq (.seq (.sets [(8, (.cst (.bool true)))] [])
    (.block 2 (.loop
      (.seq (.cond (.var 8)
        .skip
        (.exit 2))
      (.seq (.block 3 (.seq (.seq (.hv [] [] [] (some 15) (.call false) (.cons (.cst (.func (.func 42) #[] #[])) (.cons (.var 3) (.cons (.var 5) (.cons (.var 6) .nil)))))
      (.cond (.var 15)
        (.hv [] [] [] none (.call false) (.cons (.cst (.func (.func 43) #[] #[])) (.cons (.var 3) (.cons (.var 5) (.cons (.var 6) (.cons (.var 4) .nil))))))
        .skip))
      (.sets [(6, (.node (.bin .add) (.cons (.var 6) (.cons (.cst (.int .i64 2)) .nil)))), (5, (.node (.bin .sub) (.cons (.var 5) (.cons (.cst (.int .i64 2)) .nil))))] [])))
      (.sets [(8, (.pick (.node (.bin .geq) (.cons (.var 5) (.cons (.cst (.int .i64 0)) .nil))) (.node (.bin .lss) (.cons (.var 6) (.cons (.var 1) .nil))) (.cst (.bool false))))] []))))))
    (.seq (.sets [(6, (.node (.bin .add) (.cons (.var 6) (.cons (.cst (.int .i64 3)) .nil)))), (5, (.node (.bin .add) (.cons (.var 5) (.cons (.cst (.int .i64 1)) .nil))))] [])
    (.seq (.seq (.sets [(9, (.cst (.bool true)))] [])
    (.block 4 (.loop
      (.seq (.cond (.var 9)
        .skip
        (.exit 4))
      (.seq (.block 5 (.seq (.seq (.hv [] [] [] (some 16) (.call false) (.cons (.cst (.func (.func 42) #[] #[])) (.cons (.var 3) (.cons (.var 5) (.cons (.var 6) .nil)))))
      (.cond (.var 16)
        (.hv [] [] [] none (.call false) (.cons (.cst (.func (.func 43) #[] #[])) (.cons (.var 3) (.cons (.var 5) (.cons (.var 6) (.cons (.var 4) .nil))))))
        .skip))
      (.sets [(6, (.node (.bin .sub) (.cons (.var 6) (.cons (.cst (.int .i64 2)) .nil)))), (5, (.node (.bin .add) (.cons (.var 5) (.cons (.cst (.int .i64 2)) .nil))))] [])))
      (.sets [(9, (.pick (.node (.bin .lss) (.cons (.var 5) (.cons (.var 0) .nil))) (.node (.bin .geq) (.cons (.var 6) (.cons (.cst (.int .i64 0)) .nil))) (.cst (.bool false))))] []))))))
    (.sets [(6, (.node (.bin .add) (.cons (.var 6) (.cons (.cst (.int .i64 1)) .nil)))), (5, (.node (.bin .add) (.cons (.var 5) (.cons (.cst (.int .i64 3)) .nil))))] []))))))
    (.sets [(7, (.pick (.node (.bin .lss) (.cons (.var 5) (.cons (.var 0) .nil))) (.cst (.bool true)) (.node (.bin .lss) (.cons (.var 6) (.cons (.var 1) .nil)))))] []))))))
  (.seq (.sets [(2, (.node (.ld 1 false) (.cons (.node (.fAddr 2) (.cons (.node .nilChk (.cons (.var 3) .nil)) .nil)) .nil)))] [])
  .ret))))))
def cf26 : CF := ⟨2, 17, [(.var 2)], bd26⟩
def tr26 : List Nat := [0, 1, 4, 5, 6, 7, 8, 9, 10, 11, 12, 13, 14, 18, 20, 48, 73]
/-- barscan/barscanref25.Mapping -/
def bd27 : Stm :=
  (.seq (.seq (.hv [] [] [] (some 1) .box (.cons (.var 0) .nil))
  (.sets [(3, (.cst (.int .i64 0))), (2, (.cst (.int .i64 0)))] []))
  (.seq (.sets [(3, (.node (.bin .mul) (.cons (.node (.bin .quo) (.cons (.node (.ld 1 false) (.cons (.node (.fAddr 1) (.cons (.var 1) .nil)) .nil)) (.cons (.node (.bin .add) (.cons (.node (.ld 1 false) (.cons (.node (.fAddr 3) (.cons (.var 1) .nil)) .nil)) (.cons (.cst (.int .i64 2)) .nil))) .nil))) (.cons (.node (.ld 1 false) (.cons (.node (.fAddr 3) (.cons (.var 1) .nil)) .nil)) .nil)))), (2, (.node (.bin .mul) (.cons (.node (.bin .quo) (.cons (.node (.ld 1 false) (.cons (.node (.fAddr 0) (.cons (.var 1) .nil)) .nil)) (.cons (.node (.bin .add) (.cons (.node (.ld 1 false) (.cons (.node (.fAddr 2) (.cons (.var 1) .nil)) .nil)) (.cons (.cst (.int .i64 2)) .nil))) .nil))) (.cons (.node (.ld 1 false) (.cons (.node (.fAddr 2) (.cons (.var 1) .nil)) .nil)) .nil))))] [])
  .ret))
def cf27 : CF := ⟨1, 4, [(.var 2), (.var 3)], bd27⟩
def tr27 : List Nat := [0, 1, 2, 3]
/-- barscan/barscanref25.order -/
def bd28 : Stm :=
  (.seq (.sets [(2, (.cst (.slice none 0 0)))] [])
  (.seq (.seq (.hv [] [] [] (some 7) .box (.cons (.node (.build [(.int .i64 0), (.int .i64 0), (.int .i64 0), (.slice none 0 0)] [(0, 1), (1, 1)]) (.cons (.var 0) (.cons (.var 1) .nil))) .nil))
  (.sets [(3, (.var 7))] []))
  (.seq (.seq (.sets [(4, (.cst (.int .i64 0)))] [])
  (.block 0 (.loop
    (.seq (.cond (.node (.bin .lss) (.cons (.var 4) (.cons (.node (.bin .mul) (.cons (.var 0) (.cons (.var 1) .nil))) .nil)))
      .skip
      (.exit 0))
    (.seq (.block 1 (.seq (.hv [(9, (.node (.ld 1 false) (.cons (.node (.fAddr 3) (.cons (.node .nilChk (.cons (.var 3) .nil)) .nil)) .nil))), (8, (.var 3))] [] [] (some 10) (.bSl [(.int .i64 0)] 1 [0]) (.cons (.cst (.int .i64 (-1))) .nil))
    (.seq (.hv [] [] [] (some 11) (.app 1 [(.int .i64 0)]) (.cons (.var 9) (.cons (.var 10) .nil)))
    (.hv [] [] [] none (.st 1) (.cons (.node (.fAddr 3) (.cons (.node .nilChk (.cons (.var 8) .nil)) .nil)) (.cons (.var 11) .nil))))))
    (.sets [(4, (.node (.bin .add) (.cons (.var 4) (.cons (.cst (.int .i64 1)) .nil))))] []))))))
  (.seq (.sets [(5, (.cst (.int .i64 4)))] [])
  (.seq (.sets [(6, (.cst (.int .i64 0)))] [])
  (.seq (.block 2 (.loop
    (.seq (.cond (.pick (.node (.bin .lss) (.cons (.var 5) (.cons (.var 0) .nil))) (.cst (.bool true)) (.node (.bin .lss) (.cons (.var 6) (.cons (.var 1) .nil))))
      .skip
      (.exit 2))
    (.block 3 (.seq (.hv [] [] [] none (.call false) (.cons (.cst (.func (.func 44) #[] #[])) (.cons (.var 3) (.cons (.var 5) (.cons (.var 6) .nil)))))
    (.seq (.hv [] [] [] none (.call false) (.cons (.cst (.func (.func 45) #[] #[])) (.cons (.var 3) (.cons (.var 5) (.cons (.var 6) .nil)))))
    (.seq (.sets [(5, (.node (.bin .sub) (.cons (.var 5) (.cons (.cst (.int .i64 2)) .nil))))] [])
    (.seq (.sets [(6, (.node (.bin .add) (.cons (.var 6) (.cons (.cst (.int .i64 2)) .nil))))] [])
    (.seq (.block 4 (.loop
      (.seq (.cond (.pick (.node (.bin .geq) (.cons (.var 5) (.cons (.cst (.int .i64 0)) .nil))) (.node (.bin .lss) (.cons (.var 6) (.cons (.var 1) .nil))) (.cst (.bool false)))
        .skip
        (.exit 4))
      (.block 5 (.seq (.hv [] [] [] none (.call false) (.cons (.cst (.func (.func 45) #[] #[])) (.cons (.var 3) (.cons (.var 5) (.cons (.var 6) .nil)))))
      (.seq (.sets [(5, (.node (.bin .sub) (.cons (.var 5) (.cons (.cst (.int .i64 2)) .nil))))] [])
      (.sets [(6, (.node (.bin .add) (.cons (.var 6) (.cons (.cst (.int .i64 2)) .nil))))] [])))))))
    (.seq (.sets [(5, (.node (.bin .add) (.cons (.var 5) (.cons (.cst (.int .i64 1)) .nil))))] [])
    (.seq (.sets [(6, (.node (.bin .add) (.cons (.var 6) (.cons (.cst (.int .i64 3)) .nil))))] [])
    (.seq (.hv [] [] [] none (.call false) (.cons (.cst (.func (.func 45) #[] #[])) (.cons (.var 3) (.cons (.var 5) (.cons (.var 6) .nil)))))
    (.seq (.sets [(5, (.node (.bin .add) (.cons (.var 5) (.cons (.cst (.int .i64 2)) .nil))))] [])
    (.seq (.sets [(6, (.node (.bin .sub) (.cons (.var 6) (.cons (.cst (.int .i64 2)) .nil))))] [])
    (.seq (.block 6 (.loop
      (.seq (.cond (.pick (.node (.bin .lss) (.cons (.var 5) (.cons (.var 0) .nil))) (.node (.bin .geq) (.cons (.var 6) (.cons (.cst (.int .i64 0)) .nil))) (.cst (.bool false)))
        .skip
        (.exit 6))
      (.block 7 (.seq (.hv [] [] [] none (.call false) (.cons (.cst (.func (.func 45) #[] #[])) (.cons (.var 3) (.cons (.var 5) (.cons (.var 6) .nil)))))
      (.seq (.sets [(5, (.node (.bin .add) (.cons (.var 5) (.cons (.cst (.int .i64 2)) .nil))))] [])
      (.sets [(6, (.node (.bin .sub) (.cons (.var 6) (.cons (.cst (.int .i64 2)) .nil))))] [])))))))
    (.seq (.sets [(5, (.node (.bin .add) (.cons (.var 5) (.cons (.cst (.int .i64 3)) .nil))))] [])
    (.sets [(6, (.node (.bin .add) (.cons (.var 6) (.cons (.cst (.int .i64 1)) .nil))))] [])))))))))))))))))
  (.seq (.sets [(2, (.node (.ld 1 false) (.cons (.node (.fAddr 3) (.cons (.node .nilChk (.cons (.var 3) .nil)) .nil)) .nil)))] [])
  .ret)))))))
def cf28 : CF := ⟨2, 12, [(.var 2)], bd28⟩
def tr28 : List Nat := [0, 1, 4, 5, 6, 7, 8, 12, 20, 24, 25, 26]
/-- barscan/barscanref25.Equal -/
def bd29 : Stm :=
  (.seq (.sets [(2, (.cst (.bool false)))] [])
  (.seq (.cond (.node (.bin .neq) (.cons (.node .len (.cons (.var 0) .nil)) (.cons (.node .len (.cons (.var 1) .nil)) .nil)))
    (.seq (.sets [(2, (.cst (.bool false)))] [])
    .ret)
    .skip)
  (.seq (.seq (.sets [(3, (.cst (.int .i64 0)))] [])
  (.block 0 (.loop
    (.seq (.cond (.node (.bin .lss) (.cons (.var 3) (.cons (.node .len (.cons (.var 0) .nil)) .nil)))
      .skip
      (.exit 0))
    (.seq (.block 1 (.cond (.node (.bin .neq) (.cons (.node (.ld 1 false) (.cons (.node (.iAddr 1) (.cons (.var 0) (.cons (.var 3) .nil))) .nil)) (.cons (.node (.ld 1 false) (.cons (.node (.iAddr 1) (.cons (.var 1) (.cons (.var 3) .nil))) .nil)) .nil)))
      (.seq (.sets [(2, (.cst (.bool false)))] [])
      .ret)
      .skip))
    (.sets [(3, (.node (.bin .add) (.cons (.var 3) (.cons (.cst (.int .i64 1)) .nil))))] []))))))
  (.seq (.sets [(2, (.cst (.bool true)))] [])
  .ret))))
def cf29 : CF := ⟨2, 4, [(.var 2)], bd29⟩
def tr29 : List Nat := [0, 1, 4, 5]
/-- slices.Contains[[]barscan/api.DMSize,barscan/api.DMSize] -/
def bd30 : Stm :=
  (.seq (.seq (.hv [] [] [] (some 2) .box (.cons (.var 1) .nil))
  (.sets [(3, (.cst (.bool false)))] []))
  (.seq (.seq (.hv [] [] [] (some 4) (.call false) (.cons (.cst (.func (.func 46) #[] #[])) (.cons (.var 0) (.cons (.node (.ld 7 true) (.cons (.var 2) .nil)) .nil))))
  (.sets [(3, (.node (.bin .geq) (.cons (.var 4) (.cons (.cst (.int .i64 0)) .nil))))] []))
  .ret))
def cf30 : CF := ⟨2, 5, [(.var 3)], bd30⟩
def tr30 : List Nat := [0, 1, 3, 4, 7]
/-- barscan/dmlayout.locate -/
def bd31 : Stm :=
  (.seq (.seq (.hv [] [] [] (some 3) .box (.cons (.var 0) .nil))
  (.hv [] [] [] (some 4) (.alloc [(.bool false), (.bool false), (.int .i64 0)]) .nil))
  (.seq (.sets [(6, (.node (.bin .add) (.cons (.node (.ld 1 false) (.cons (.node (.fAddr 3) (.cons (.var 3) .nil)) .nil)) (.cons (.cst (.int .i64 2)) .nil)))), (5, (.node (.bin .add) (.cons (.node (.ld 1 false) (.cons (.node (.fAddr 2) (.cons (.var 3) .nil)) .nil)) (.cons (.cst (.int .i64 2)) .nil))))] [])
  (.seq (.sets [(8, (.node (.bin .rem) (.cons (.var 2) (.cons (.var 6) .nil)))), (7, (.node (.bin .rem) (.cons (.var 1) (.cons (.var 5) .nil))))] [])
  (.seq (.block 0 (.cond (.pick (.node (.bin .eql) (.cons (.var 8) (.cons (.cst (.int .i64 0)) .nil))) (.cst (.bool true)) (.node (.bin .eql) (.cons (.var 7) (.cons (.node (.bin .sub) (.cons (.var 5) (.cons (.cst (.int .i64 1)) .nil))) .nil))))
    (.seq (.hv [] [] [] none (.st 3) (.cons (.var 4) (.cons (.node (.build [(.bool false), (.bool false), (.int .i64 0)] [(0, 1), (1, 1)]) (.cons (.cst (.bool true)) (.cons (.cst (.bool true)) .nil))) .nil)))
    .ret)
    (.cond (.node (.bin .eql) (.cons (.var 7) (.cons (.cst (.int .i64 0)) .nil)))
      (.seq (.hv [] [] [] none (.st 3) (.cons (.var 4) (.cons (.node (.build [(.bool false), (.bool false), (.int .i64 0)] [(0, 1), (1, 1)]) (.cons (.cst (.bool true)) (.cons (.node (.bin .eql) (.cons (.node (.bin .rem) (.cons (.var 8) (.cons (.cst (.int .i64 2)) .nil))) (.cons (.cst (.int .i64 0)) .nil))) .nil))) .nil)))
      .ret)
      (.cond (.node (.bin .eql) (.cons (.var 8) (.cons (.node (.bin .sub) (.cons (.var 6) (.cons (.cst (.int .i64 1)) .nil))) .nil)))
        (.seq (.hv [] [] [] none (.st 3) (.cons (.var 4) (.cons (.node (.build [(.bool false), (.bool false), (.int .i64 0)] [(0, 1), (1, 1)]) (.cons (.cst (.bool true)) (.cons (.node (.bin .eql) (.cons (.node (.bin .rem) (.cons (.var 7) (.cons (.cst (.int .i64 2)) .nil))) (.cons (.cst (.int .i64 1)) .nil))) .nil))) .nil)))
        .ret)
        .skip))))
  (.seq (.seq (.hv [] [] [] (some 10) (.call false) (.cons (.cst (.func (.func 25) #[] #[])) (.cons (.node (.ld 7 true) (.cons (.var 3) .nil)) .nil)))
  (.sets [(9, (.node (.ext 1) (.cons (.var 10) .nil)))] [(.node (.ext 0) (.cons (.var 10) .nil))]))
  (.seq (.hv [] [] [] none (.st 3) (.cons (.var 4) (.cons (.node (.build [(.bool false), (.bool false), (.int .i64 0)] [(2, 1)]) (.cons (.node (.bin .sub) (.cons (.node (.bin .add) (.cons (.node (.bin .add) (.cons (.node (.bin .mul) (.cons (.node (.bin .sub) (.cons (.node (.bin .add) (.cons (.node (.bin .mul) (.cons (.node (.bin .quo) (.cons (.var 1) (.cons (.var 5) .nil))) (.cons (.node (.ld 1 false) (.cons (.node (.fAddr 2) (.cons (.var 3) .nil)) .nil)) .nil))) (.cons (.var 7) .nil))) (.cons (.cst (.int .i64 1)) .nil))) (.cons (.var 9) .nil))) (.cons (.node (.bin .mul) (.cons (.node (.bin .quo) (.cons (.var 2) (.cons (.var 6) .nil))) (.cons (.node (.ld 1 false) (.cons (.node (.fAddr 3) (.cons (.var 3) .nil)) .nil)) .nil))) .nil))) (.cons (.var 8) .nil))) (.cons (.cst (.int .i64 1)) .nil))) .nil)) .nil)))
  .ret))))))
def cf31 : CF := ⟨3, 11, [(.node (.ld 3 true) (.cons (.var 4) .nil))], bd31⟩
def tr31 : List Nat := [0, 1, 2, 3, 6, 7, 8, 9, 10, 12, 53]
/-- barscan/dmlayout.fixed -/
def bd32 : Stm :=
  (.seq (.sets [(3, (.cst (.bool false)))] [])
  (.seq (.sets [(5, (.node (.bin .rem) (.cons (.var 2) (.cons (.var 1) .nil)))), (4, (.node (.bin .quo) (.cons (.var 2) (.cons (.var 1) .nil))))] [])
  (.seq (.sets [(3, (.pick (.pick (.node (.bin .eql) (.cons (.var 4) (.cons (.node (.bin .sub) (.cons (.var 0) (.cons (.cst (.int .i64 2)) .nil))) .nil))) (.node (.bin .eql) (.cons (.var 5) (.cons (.node (.bin .sub) (.cons (.var 1) (.cons (.cst (.int .i64 2)) .nil))) .nil))) (.cst (.bool false))) (.cst (.bool true)) (.pick (.node (.bin .eql) (.cons (.var 4) (.cons (.node (.bin .sub) (.cons (.var 0) (.cons (.cst (.int .i64 1)) .nil))) .nil))) (.node (.bin .eql) (.cons (.var 5) (.cons (.node (.bin .sub) (.cons (.var 1) (.cons (.cst (.int .i64 1)) .nil))) .nil))) (.cst (.bool false)))))] [])
  .ret)))
def cf32 : CF := ⟨3, 6, [(.var 3)], bd32⟩
def tr32 : List Nat := [0, 1, 2, 6, 7, 8]
/-- barscan/barscanref25.border -/
def bd33 : Stm :=
  (.seq (.seq (.hv [] [] [] (some 3) .box (.cons (.var 0) .nil))
  (.sets [(5, (.cst (.bool false))), (4, (.cst (.bool false)))] []))
  (.seq (.sets [(6, (.node (.bin .rem) (.cons (.var 1) (.cons (.node (.bin .add) (.cons (.node (.ld 1 false) (.cons (.node (.fAddr 3) (.cons (.var 3) .nil)) .nil)) (.cons (.cst (.int .i64 2)) .nil))) .nil))))] [])
  (.seq (.sets [(7, (.node (.bin .rem) (.cons (.var 2) (.cons (.node (.bin .add) (.cons (.node (.ld 1 false) (.cons (.node (.fAddr 2) (.cons (.var 3) .nil)) .nil)) (.cons (.cst (.int .i64 2)) .nil))) .nil))))] [])
  (.seq (.cond (.pick (.node (.bin .eql) (.cons (.var 6) (.cons (.cst (.int .i64 0)) .nil))) (.cst (.bool true)) (.node (.bin .eql) (.cons (.var 7) (.cons (.node (.bin .add) (.cons (.node (.ld 1 false) (.cons (.node (.fAddr 2) (.cons (.var 3) .nil)) .nil)) (.cons (.cst (.int .i64 1)) .nil))) .nil))))
    (.seq (.sets [(5, (.cst (.bool true))), (4, (.cst (.bool true)))] [])
    .ret)
    .skip)
  (.seq (.cond (.node (.bin .eql) (.cons (.var 7) (.cons (.cst (.int .i64 0)) .nil)))
    (.seq (.sets [(5, (.node (.bin .eql) (.cons (.node (.bin .rem) (.cons (.var 6) (.cons (.cst (.int .i64 2)) .nil))) (.cons (.cst (.int .i64 0)) .nil)))), (4, (.cst (.bool true)))] [])
    .ret)
    .skip)
  (.seq (.sets [(5, (.node (.bin .eql) (.cons (.node (.bin .rem) (.cons (.var 7) (.cons (.cst (.int .i64 2)) .nil))) (.cons (.cst (.int .i64 1)) .nil)))), (4, (.node (.bin .eql) (.cons (.var 6) (.cons (.node (.bin .add) (.cons (.node (.ld 1 false) (.cons (.node (.fAddr 3) (.cons (.var 3) .nil)) .nil)) (.cons (.cst (.int .i64 1)) .nil))) .nil))))] [])
  .ret))))))
def cf33 : CF := ⟨3, 8, [(.var 4), (.var 5)], bd33⟩
def tr33 : List Nat := [0, 1, 2, 3, 6, 7, 8, 9]
/-- barscan/barscanref25.cell -/
def bd34 : Stm :=
  (.seq (.seq (.hv [] [] [] (some 3) .box (.cons (.var 0) .nil))
  (.sets [(4, (.cst (.int .i64 0)))] []))
  (.seq (.seq (.hv [] [] [] (some 8) (.call false) (.cons (.cst (.func (.func 27) #[] #[])) (.cons (.node (.ld 7 true) (.cons (.var 3) .nil)) .nil)))
  (.sets [(5, (.node (.ext 1) (.cons (.var 8) .nil)))] [(.node (.ext 0) (.cons (.var 8) .nil))]))
  (.seq (.sets [(6, (.node (.bin .sub) (.cons (.node (.bin .add) (.cons (.node (.bin .mul) (.cons (.node (.bin .quo) (.cons (.var 1) (.cons (.node (.bin .add) (.cons (.node (.ld 1 false) (.cons (.node (.fAddr 3) (.cons (.var 3) .nil)) .nil)) (.cons (.cst (.int .i64 2)) .nil))) .nil))) (.cons (.node (.ld 1 false) (.cons (.node (.fAddr 3) (.cons (.var 3) .nil)) .nil)) .nil))) (.cons (.node (.bin .rem) (.cons (.var 1) (.cons (.node (.bin .add) (.cons (.node (.ld 1 false) (.cons (.node (.fAddr 3) (.cons (.var 3) .nil)) .nil)) (.cons (.cst (.int .i64 2)) .nil))) .nil))) .nil))) (.cons (.cst (.int .i64 1)) .nil))))] [])
  (.seq (.sets [(7, (.node (.bin .sub) (.cons (.node (.bin .add) (.cons (.node (.bin .mul) (.cons (.node (.bin .quo) (.cons (.var 2) (.cons (.node (.bin .add) (.cons (.node (.ld 1 false) (.cons (.node (.fAddr 2) (.cons (.var 3) .nil)) .nil)) (.cons (.cst (.int .i64 2)) .nil))) .nil))) (.cons (.node (.ld 1 false) (.cons (.node (.fAddr 2) (.cons (.var 3) .nil)) .nil)) .nil))) (.cons (.node (.bin .rem) (.cons (.var 2) (.cons (.node (.bin .add) (.cons (.node (.ld 1 false) (.cons (.node (.fAddr 2) (.cons (.var 3) .nil)) .nil)) (.cons (.cst (.int .i64 2)) .nil))) .nil))) .nil))) (.cons (.cst (.int .i64 1)) .nil))))] [])
  (.seq (.sets [(4, (.node (.bin .add) (.cons (.node (.bin .mul) (.cons (.var 7) (.cons (.var 5) .nil))) (.cons (.var 6) .nil))))] [])
  .ret)))))
def cf34 : CF := ⟨3, 9, [(.var 4)], bd34⟩
def tr34 : List Nat := [0, 1, 2, 3, 6, 8, 9, 10, 13]
/-- barscan/dmlayout.valid -/
def bd35 : Stm :=
  (.seq (.seq (.hv [] [] [] (some 1) .box (.cons (.var 0) .nil))
  (.sets [(2, (.cst (.bool false)))] []))
  (.seq (.sets [(2, (.pick (.pick (.pick (.pick (.pick (.node (.bin .geq) (.cons (.node (.ld 1 false) (.cons (.node (.fAddr 0) (.cons (.var 1) .nil)) .nil)) (.cons (.cst (.int .i64 1)) .nil))) (.node (.bin .leq) (.cons (.node (.ld 1 false) (.cons (.node (.fAddr 0) (.cons (.var 1) .nil)) .nil)) (.cons (.cst (.int .i64 4096)) .nil))) (.cst (.bool false))) (.node (.bin .geq) (.cons (.node (.ld 1 false) (.cons (.node (.fAddr 1) (.cons (.var 1) .nil)) .nil)) (.cons (.cst (.int .i64 1)) .nil))) (.cst (.bool false))) (.node (.bin .leq) (.cons (.node (.ld 1 false) (.cons (.node (.fAddr 1) (.cons (.var 1) .nil)) .nil)) (.cons (.cst (.int .i64 4096)) .nil))) (.cst (.bool false))) (.node (.bin .leq) (.cons (.node (.bin .mul) (.cons (.node (.ld 1 false) (.cons (.node (.fAddr 0) (.cons (.var 1) .nil)) .nil)) (.cons (.node (.ld 1 false) (.cons (.node (.fAddr 1) (.cons (.var 1) .nil)) .nil)) .nil))) (.cons (.cst (.int .i64 4194304)) .nil))) (.cst (.bool false))) (.node (.bin .eql) (.cons (.node .len (.cons (.node (.ld 1 false) (.cons (.node (.fAddr 2) (.cons (.var 1) .nil)) .nil)) .nil)) (.cons (.node (.bin .mul) (.cons (.node (.ld 1 false) (.cons (.node (.fAddr 0) (.cons (.var 1) .nil)) .nil)) (.cons (.node (.ld 1 false) (.cons (.node (.fAddr 1) (.cons (.var 1) .nil)) .nil)) .nil))) .nil))) (.cst (.bool false))))] [])
  .ret))
def cf35 : CF := ⟨1, 3, [(.var 2)], bd35⟩
def tr35 : List Nat := [0, 1, 2]
/-- slices.IndexFunc[[]barscan/api.DMSize,barscan/api.DMSize] -/
def bd36 : Stm :=
  (.seq (.sets [(2, (.cst (.int .i64 0)))] [])
  (.seq (.seq (.sets [(5, (.cst (.int .i64 0))), (4, (.node .len (.cons (.var 0) .nil)))] [])
  (.block 0 (.loop
    (.seq (.cond (.node (.bin .lss) (.cons (.var 5) (.cons (.var 4) .nil)))
      .skip
      (.exit 0))
    (.seq (.block 1 (.seq (.sets [(3, (.var 5))] [])
    (.seq (.hv [] [] [] (some 6) (.call false) (.cons (.var 1) (.cons (.node (.ld 7 true) (.cons (.node (.iAddr 7) (.cons (.var 0) (.cons (.var 3) .nil))) .nil)) .nil)))
    (.cond (.var 6)
      (.seq (.sets [(2, (.var 3))] [])
      .ret)
      .skip))))
    (.sets [(5, (.node (.bin .add) (.cons (.var 5) (.cons (.cst (.int .i64 1)) .nil))))] []))))))
  (.seq (.sets [(2, (.cst (.int .i64 (-1))))] [])
  .ret)))
def cf36 : CF := ⟨2, 7, [(.var 2)], bd36⟩
def tr36 : List Nat := [0, 1, 4, 5, 7, 8, 16]
/-- barscan/dmlayout.Extract$1 -/
def bd37 : Stm :=
  (.seq (.seq (.hv [] [] [] (some 2) .box (.cons (.var 0) .nil))
  (.sets [(3, (.cst (.bool false)))] []))
  (.seq (.sets [(3, (.pick (.node (.bin .eql) (.cons (.node (.ld 1 false) (.cons (.node (.fAddr 0) (.cons (.var 2) .nil)) .nil)) (.cons (.node (.ld 1 false) (.cons (.node (.fAddr 1) (.cons (.var 1) .nil)) .nil)) .nil))) (.node (.bin .eql) (.cons (.node (.ld 1 false) (.cons (.node (.fAddr 1) (.cons (.var 2) .nil)) .nil)) (.cons (.node (.ld 1 false) (.cons (.node (.fAddr 0) (.cons (.var 1) .nil)) .nil)) .nil))) (.cst (.bool false))))] [])
  .ret))
def cf37 : CF := ⟨2, 4, [(.var 3)], bd37⟩
def tr37 : List Nat := [0, 1, 2, 3]
/-- barscan/barscanref25.Valid -/
def bd38 : Stm :=
  (.seq (.seq (.hv [] [] [] (some 1) .box (.cons (.var 0) .nil))
  (.sets [(2, (.cst (.bool false)))] []))
  (.seq (.sets [(2, (.pick (.pick (.pick (.pick (.pick (.node (.bin .geq) (.cons (.node (.ld 1 false) (.cons (.node (.fAddr 0) (.cons (.var 1) .nil)) .nil)) (.cons (.cst (.int .i64 1)) .nil))) (.node (.bin .leq) (.cons (.node (.ld 1 false) (.cons (.node (.fAddr 0) (.cons (.var 1) .nil)) .nil)) (.cons (.cst (.int .i64 4096)) .nil))) (.cst (.bool false))) (.node (.bin .geq) (.cons (.node (.ld 1 false) (.cons (.node (.fAddr 1) (.cons (.var 1) .nil)) .nil)) (.cons (.cst (.int .i64 1)) .nil))) (.cst (.bool false))) (.node (.bin .leq) (.cons (.node (.ld 1 false) (.cons (.node (.fAddr 1) (.cons (.var 1) .nil)) .nil)) (.cons (.cst (.int .i64 4096)) .nil))) (.cst (.bool false))) (.node (.bin .leq) (.cons (.node (.bin .mul) (.cons (.node (.ld 1 false) (.cons (.node (.fAddr 0) (.cons (.var 1) .nil)) .nil)) (.cons (.node (.ld 1 false) (.cons (.node (.fAddr 1) (.cons (.var 1) .nil)) .nil)) .nil))) (.cons (.cst (.int .i64 4194304)) .nil))) (.cst (.bool false))) (.node (.bin .eql) (.cons (.node .len (.cons (.node (.ld 1 false) (.cons (.node (.fAddr 2) (.cons (.var 1) .nil)) .nil)) .nil)) (.cons (.node (.bin .mul) (.cons (.node (.ld 1 false) (.cons (.node (.fAddr 0) (.cons (.var 1) .nil)) .nil)) (.cons (.node (.ld 1 false) (.cons (.node (.fAddr 1) (.cons (.var 1) .nil)) .nil)) .nil))) .nil))) (.cst (.bool false))))] [])
  .ret))
def cf38 : CF := ⟨1, 3, [(.var 2)], bd38⟩
def tr38 : List Nat := [0, 1, 2]
/-- slices.Repeat[[]int,int] -/
def bd39 : Stm :=
  (.seq (.sets [(2, (.cst (.slice none 0 0)))] [])
  (.seq (.cond (.node (.bin .lss) (.cons (.var 1) (.cons (.cst (.int .i64 0)) .nil)))
    (.hv [] [(.node (.mkI 9) (.cons (.cst (.string ⟨#[99, 97, 110, 110, 111, 116, 32, 98, 101, 32, 110, 101, 103, 97, 116, 105, 118, 101]⟩)) .nil))] [] none .fail .nil)
    .skip)
  (.seq (.seq (.hv [] [] [] (some 7) (.call false) (.cons (.cst (.func (.func 47) #[] #[])) (.cons (.node (.cvt .u64) (.cons (.node .len (.cons (.var 0) .nil)) .nil)) (.cons (.node (.cvt .u64) (.cons (.var 1) .nil)) .nil))))
  (.sets [(4, (.node (.ext 1) (.cons (.var 7) .nil))), (3, (.node (.ext 0) (.cons (.var 7) .nil)))] []))
  (.seq (.cond (.pick (.node (.bin .gtr) (.cons (.var 3) (.cons (.cst (.int .u64 0)) .nil))) (.cst (.bool true)) (.node (.bin .gtr) (.cons (.var 4) (.cons (.cst (.int .u64 9223372036854775807)) .nil))))
    (.hv [] [(.node (.mkI 9) (.cons (.cst (.string ⟨#[116, 104, 101, 32, 114, 101, 115, 117, 108, 116, 32, 111, 102, 32, 40, 108, 101, 110, 40, 120, 41, 32, 42, 32, 99, 111, 117, 110, 116, 41, 32, 111, 118, 101, 114, 102, 108, 111, 119, 115]⟩)) .nil))] [] none .fail .nil)
    .skip)
  (.seq (.seq (.hv [] [] [] (some 8) (.mkSl [(.int .i64 0)]) (.cons (.node (.cvt .i64) (.cons (.var 4) .nil)) (.cons (.node (.cvt .i64) (.cons (.var 4) .nil)) .nil)))
  (.sets [(5, (.var 8))] []))
  (.seq (.seq (.hv [] [] [] (some 9) (.cpy 1) (.cons (.var 5) (.cons (.var 0) .nil)))
  (.sets [(6, (.var 9))] []))
  (.seq (.block 0 (.loop
    (.seq (.cond (.node (.bin .lss) (.cons (.var 6) (.cons (.node .len (.cons (.var 5) .nil)) .nil)))
      .skip
      (.exit 0))
    (.block 1 (.seq (.hv [(10, (.var 6))] [] [] (some 11) (.cpy 1) (.cons (.node (.sl 1 true false false) (.cons (.var 5) (.cons (.var 6) .nil))) (.cons (.node (.sl 1 false true false) (.cons (.var 5) (.cons (.var 6) .nil))) .nil)))
    (.sets [(6, (.node (.bin .add) (.cons (.var 10) (.cons (.var 11) .nil))))] []))))))
  (.seq (.sets [(2, (.var 5))] [])
  .ret))))))))
def cf39 : CF := ⟨2, 12, [(.var 2)], bd39⟩
def tr39 : List Nat := [0, 1, 4, 5, 6, 7, 8, 18, 30, 33, 38, 45]
/-- (*barscan/dmlayout.filler).assign -/
def bd40 : Stm :=
  (.seq (.cond (.node (.bin .lss) (.cons (.var 1) (.cons (.cst (.int .i64 0)) .nil)))
    (.seq (.sets [(1, (.node (.bin .add) (.cons (.var 1) (.cons (.node (.ld 1 false) (.cons (.node (.fAddr 0) (.cons (.node .nilChk (.cons (.var 0) .nil)) .nil)) .nil)) .nil))))] [])
    (.sets [(2, (.node (.bin .add) (.cons (.var 2) (.cons (.node (.bin .sub) (.cons (.cst (.int .i64 4)) (.cons (.node (.bin .rem) (.cons (.node (.bin .add) (.cons (.node (.ld 1 false) (.cons (.node (.fAddr 0) (.cons (.node .nilChk (.cons (.var 0) .nil)) .nil)) .nil)) (.cons (.cst (.int .i64 4)) .nil))) (.cons (.cst (.int .i64 8)) .nil))) .nil))) .nil))))] []))
    .skip)
  (.seq (.cond (.node (.bin .lss) (.cons (.var 2) (.cons (.cst (.int .i64 0)) .nil)))
    (.seq (.sets [(2, (.node (.bin .add) (.cons (.var 2) (.cons (.node (.ld 1 false) (.cons (.node (.fAddr 1) (.cons (.node .nilChk (.cons (.var 0) .nil)) .nil)) .nil)) .nil))))] [])
    (.sets [(1, (.node (.bin .add) (.cons (.var 1) (.cons (.node (.bin .sub) (.cons (.cst (.int .i64 4)) (.cons (.node (.bin .rem) (.cons (.node (.bin .add) (.cons (.node (.ld 1 false) (.cons (.node (.fAddr 1) (.cons (.node .nilChk (.cons (.var 0) .nil)) .nil)) .nil)) (.cons (.cst (.int .i64 4)) .nil))) (.cons (.cst (.int .i64 8)) .nil))) .nil))) .nil))))] []))
    .skip)
  (.hv [] [] [] none (.st 1) (.cons (.node (.iAddr 1) (.cons (.node (.ld 1 false) (.cons (.node (.fAddr 2) (.cons (.node .nilChk (.cons (.var 0) .nil)) .nil)) .nil)) (.cons (.node (.bin .add) (.cons (.node (.bin .mul) (.cons (.var 1) (.cons (.node (.ld 1 false) (.cons (.node (.fAddr 1) (.cons (.node .nilChk (.cons (.var 0) .nil)) .nil)) .nil)) .nil))) (.cons (.var 2) .nil))) .nil))) (.cons (.node (.bin .add) (.cons (.node (.bin .mul) (.cons (.cst (.int .i64 8)) (.cons (.node (.ld 1 false) (.cons (.node (.fAddr 3) (.cons (.node .nilChk (.cons (.var 0) .nil)) .nil)) .nil)) .nil))) (.cons (.var 3) .nil))) .nil)))))
def cf40 : CF := ⟨4, 4, [], bd40⟩
def tr40 : List Nat := [0, 1, 2, 3]
/-- (*barscan/dmlayout.filler).corners -/
def bd41 : Stm :=
  (.seq (.sets [(5, (.node (.ld 1 false) (.cons (.node (.fAddr 1) (.cons (.node .nilChk (.cons (.var 0) .nil)) .nil)) .nil))), (4, (.node (.ld 1 false) (.cons (.node (.fAddr 0) (.cons (.node .nilChk (.cons (.var 0) .nil)) .nil)) .nil)))] [])
  (.seq (.cond (.pick (.node (.bin .eql) (.cons (.var 1) (.cons (.var 4) .nil))) (.node (.bin .eql) (.cons (.var 2) (.cons (.cst (.int .i64 0)) .nil))) (.cst (.bool false)))
    (.hv [] [] [] none (.call false) (.cons (.cst (.func (.func 48) #[] #[])) (.cons (.var 0) (.cons (.node (.build [(.int .i64 0), (.int .i64 0), (.int .i64 0), (.int .i64 0), (.int .i64 0), (.int .i64 0), (.int .i64 0), (.int .i64 0), (.int .i64 0), (.int .i64 0), (.int .i64 0), (.int .i64 0), (.int .i64 0), (.int .i64 0), (.int .i64 0), (.int .i64 0)] [(0, 2), (2, 2), (4, 2), (6, 2), (8, 2), (10, 2), (12, 2), (14, 2)]) (.cons (.node (.build [(.int .i64 0), (.int .i64 0)] [(0, 1), (1, 1)]) (.cons (.node (.bin .sub) (.cons (.var 4) (.cons (.cst (.int .i64 1)) .nil))) (.cons (.cst (.int .i64 0)) .nil))) (.cons (.node (.build [(.int .i64 0), (.int .i64 0)] [(0, 1), (1, 1)]) (.cons (.node (.bin .sub) (.cons (.var 4) (.cons (.cst (.int .i64 1)) .nil))) (.cons (.cst (.int .i64 1)) .nil))) (.cons (.node (.build [(.int .i64 0), (.int .i64 0)] [(0, 1), (1, 1)]) (.cons (.node (.bin .sub) (.cons (.var 4) (.cons (.cst (.int .i64 1)) .nil))) (.cons (.cst (.int .i64 2)) .nil))) (.cons (.node (.build [(.int .i64 0), (.int .i64 0)] [(0, 1), (1, 1)]) (.cons (.cst (.int .i64 0)) (.cons (.node (.bin .sub) (.cons (.var 5) (.cons (.cst (.int .i64 2)) .nil))) .nil))) (.cons (.node (.build [(.int .i64 0), (.int .i64 0)] [(0, 1), (1, 1)]) (.cons (.cst (.int .i64 0)) (.cons (.node (.bin .sub) (.cons (.var 5) (.cons (.cst (.int .i64 1)) .nil))) .nil))) (.cons (.node (.build [(.int .i64 0), (.int .i64 0)] [(0, 1), (1, 1)]) (.cons (.cst (.int .i64 1)) (.cons (.node (.bin .sub) (.cons (.var 5) (.cons (.cst (.int .i64 1)) .nil))) .nil))) (.cons (.node (.build [(.int .i64 0), (.int .i64 0)] [(0, 1), (1, 1)]) (.cons (.cst (.int .i64 2)) (.cons (.node (.bin .sub) (.cons (.var 5) (.cons (.cst (.int .i64 1)) .nil))) .nil))) (.cons (.node (.build [(.int .i64 0), (.int .i64 0)] [(0, 1), (1, 1)]) (.cons (.cst (.int .i64 3)) (.cons (.node (.bin .sub) (.cons (.var 5) (.cons (.cst (.int .i64 1)) .nil))) .nil))) .nil))))))))) (.cons (.var 3) .nil)))))
    .skip)
  (.seq (.cond (.pick (.pick (.node (.bin .eql) (.cons (.var 1) (.cons (.node (.bin .sub) (.cons (.var 4) (.cons (.cst (.int .i64 2)) .nil))) .nil))) (.node (.bin .eql) (.cons (.var 2) (.cons (.cst (.int .i64 0)) .nil))) (.cst (.bool false))) (.node (.bin .neq) (.cons (.node (.bin .rem) (.cons (.var 5) (.cons (.cst (.int .i64 4)) .nil))) (.cons (.cst (.int .i64 0)) .nil))) (.cst (.bool false)))
    (.hv [] [] [] none (.call false) (.cons (.cst (.func (.func 48) #[] #[])) (.cons (.var 0) (.cons (.node (.build [(.int .i64 0), (.int .i64 0), (.int .i64 0), (.int .i64 0), (.int .i64 0), (.int .i64 0), (.int .i64 0), (.int .i64 0), (.int .i64 0), (.int .i64 0), (.int .i64 0), (.int .i64 0), (.int .i64 0), (.int .i64 0), (.int .i64 0), (.int .i64 0)] [(0, 2), (2, 2), (4, 2), (6, 2), (8, 2), (10, 2), (12, 2), (14, 2)]) (.cons (.node (.build [(.int .i64 0), (.int .i64 0)] [(0, 1), (1, 1)]) (.cons (.node (.bin .sub) (.cons (.var 4) (.cons (.cst (.int .i64 3)) .nil))) (.cons (.cst (.int .i64 0)) .nil))) (.cons (.node (.build [(.int .i64 0), (.int .i64 0)] [(0, 1), (1, 1)]) (.cons (.node (.bin .sub) (.cons (.var 4) (.cons (.cst (.int .i64 2)) .nil))) (.cons (.cst (.int .i64 0)) .nil))) (.cons (.node (.build [(.int .i64 0), (.int .i64 0)] [(0, 1), (1, 1)]) (.cons (.node (.bin .sub) (.cons (.var 4) (.cons (.cst (.int .i64 1)) .nil))) (.cons (.cst (.int .i64 0)) .nil))) (.cons (.node (.build [(.int .i64 0), (.int .i64 0)] [(0, 1), (1, 1)]) (.cons (.cst (.int .i64 0)) (.cons (.node (.bin .sub) (.cons (.var 5) (.cons (.cst (.int .i64 4)) .nil))) .nil))) (.cons (.node (.build [(.int .i64 0), (.int .i64 0)] [(0, 1), (1, 1)]) (.cons (.cst (.int .i64 0)) (.cons (.node (.bin .sub) (.cons (.var 5) (.cons (.cst (.int .i64 3)) .nil))) .nil))) (.cons (.node (.build [(.int .i64 0), (.int .i64 0)] [(0, 1), (1, 1)]) (.cons (.cst (.int .i64 0)) (.cons (.node (.bin .sub) (.cons (.var 5) (.cons (.cst (.int .i64 2)) .nil))) .nil))) (.cons (.node (.build [(.int .i64 0), (.int .i64 0)] [(0, 1), (1, 1)]) (.cons (.cst (.int .i64 0)) (.cons (.node (.bin .sub) (.cons (.var 5) (.cons (.cst (.int .i64 1)) .nil))) .nil))) (.cons (.node (.build [(.int .i64 0), (.int .i64 0)] [(0, 1), (1, 1)]) (.cons (.cst (.int .i64 1)) (.cons (.node (.bin .sub) (.cons (.var 5) (.cons (.cst (.int .i64 1)) .nil))) .nil))) .nil))))))))) (.cons (.var 3) .nil)))))
    .skip)
  (.seq (.cond (.pick (.pick (.node (.bin .eql) (.cons (.var 1) (.cons (.node (.bin .sub) (.cons (.var 4) (.cons (.cst (.int .i64 2)) .nil))) .nil))) (.node (.bin .eql) (.cons (.var 2) (.cons (.cst (.int .i64 0)) .nil))) (.cst (.bool false))) (.node (.bin .eql) (.cons (.node (.bin .rem) (.cons (.var 5) (.cons (.cst (.int .i64 8)) .nil))) (.cons (.cst (.int .i64 4)) .nil))) (.cst (.bool false)))
    (.hv [] [] [] none (.call false) (.cons (.cst (.func (.func 48) #[] #[])) (.cons (.var 0) (.cons (.node (.build [(.int .i64 0), (.int .i64 0), (.int .i64 0), (.int .i64 0), (.int .i64 0), (.int .i64 0), (.int .i64 0), (.int .i64 0), (.int .i64 0), (.int .i64 0), (.int .i64 0), (.int .i64 0), (.int .i64 0), (.int .i64 0), (.int .i64 0), (.int .i64 0)] [(0, 2), (2, 2), (4, 2), (6, 2), (8, 2), (10, 2), (12, 2), (14, 2)]) (.cons (.node (.build [(.int .i64 0), (.int .i64 0)] [(0, 1), (1, 1)]) (.cons (.node (.bin .sub) (.cons (.var 4) (.cons (.cst (.int .i64 3)) .nil))) (.cons (.cst (.int .i64 0)) .nil))) (.cons (.node (.build [(.int .i64 0), (.int .i64 0)] [(0, 1), (1, 1)]) (.cons (.node (.bin .sub) (.cons (.var 4) (.cons (.cst (.int .i64 2)) .nil))) (.cons (.cst (.int .i64 0)) .nil))) (.cons (.node (.build [(.int .i64 0), (.int .i64 0)] [(0, 1), (1, 1)]) (.cons (.node (.bin .sub) (.cons (.var 4) (.cons (.cst (.int .i64 1)) .nil))) (.cons (.cst (.int .i64 0)) .nil))) (.cons (.node (.build [(.int .i64 0), (.int .i64 0)] [(0, 1), (1, 1)]) (.cons (.cst (.int .i64 0)) (.cons (.node (.bin .sub) (.cons (.var 5) (.cons (.cst (.int .i64 2)) .nil))) .nil))) (.cons (.node (.build [(.int .i64 0), (.int .i64 0)] [(0, 1), (1, 1)]) (.cons (.cst (.int .i64 0)) (.cons (.node (.bin .sub) (.cons (.var 5) (.cons (.cst (.int .i64 1)) .nil))) .nil))) (.cons (.node (.build [(.int .i64 0), (.int .i64 0)] [(0, 1), (1, 1)]) (.cons (.cst (.int .i64 1)) (.cons (.node (.bin .sub) (.cons (.var 5) (.cons (.cst (.int .i64 1)) .nil))) .nil))) (.cons (.node (.build [(.int .i64 0), (.int .i64 0)] [(0, 1), (1, 1)]) (.cons (.cst (.int .i64 2)) (.cons (.node (.bin .sub) (.cons (.var 5) (.cons (.cst (.int .i64 1)) .nil))) .nil))) (.cons (.node (.build [(.int .i64 0), (.int .i64 0)] [(0, 1), (1, 1)]) (.cons (.cst (.int .i64 3)) (.cons (.node (.bin .sub) (.cons (.var 5) (.cons (.cst (.int .i64 1)) .nil))) .nil))) .nil))))))))) (.cons (.var 3) .nil)))))
    .skip)
  (.cond (.pick (.pick (.node (.bin .eql) (.cons (.var 1) (.cons (.node (.bin .add) (.cons (.var 4) (.cons (.cst (.int .i64 4)) .nil))) .nil))) (.node (.bin .eql) (.cons (.var 2) (.cons (.cst (.int .i64 2)) .nil))) (.cst (.bool false))) (.node (.bin .eql) (.cons (.node (.bin .rem) (.cons (.var 5) (.cons (.cst (.int .i64 8)) .nil))) (.cons (.cst (.int .i64 0)) .nil))) (.cst (.bool false)))
    (.hv [] [] [] none (.call false) (.cons (.cst (.func (.func 48) #[] #[])) (.cons (.var 0) (.cons (.node (.build [(.int .i64 0), (.int .i64 0), (.int .i64 0), (.int .i64 0), (.int .i64 0), (.int .i64 0), (.int .i64 0), (.int .i64 0), (.int .i64 0), (.int .i64 0), (.int .i64 0), (.int .i64 0), (.int .i64 0), (.int .i64 0), (.int .i64 0), (.int .i64 0)] [(0, 2), (2, 2), (4, 2), (6, 2), (8, 2), (10, 2), (12, 2), (14, 2)]) (.cons (.node (.build [(.int .i64 0), (.int .i64 0)] [(0, 1), (1, 1)]) (.cons (.node (.bin .sub) (.cons (.var 4) (.cons (.cst (.int .i64 1)) .nil))) (.cons (.cst (.int .i64 0)) .nil))) (.cons (.node (.build [(.int .i64 0), (.int .i64 0)] [(0, 1), (1, 1)]) (.cons (.node (.bin .sub) (.cons (.var 4) (.cons (.cst (.int .i64 1)) .nil))) (.cons (.node (.bin .sub) (.cons (.var 5) (.cons (.cst (.int .i64 1)) .nil))) .nil))) (.cons (.node (.build [(.int .i64 0), (.int .i64 0)] [(0, 1), (1, 1)]) (.cons (.cst (.int .i64 0)) (.cons (.node (.bin .sub) (.cons (.var 5) (.cons (.cst (.int .i64 3)) .nil))) .nil))) (.cons (.node (.build [(.int .i64 0), (.int .i64 0)] [(0, 1), (1, 1)]) (.cons (.cst (.int .i64 0)) (.cons (.node (.bin .sub) (.cons (.var 5) (.cons (.cst (.int .i64 2)) .nil))) .nil))) (.cons (.node (.build [(.int .i64 0), (.int .i64 0)] [(0, 1), (1, 1)]) (.cons (.cst (.int .i64 0)) (.cons (.node (.bin .sub) (.cons (.var 5) (.cons (.cst (.int .i64 1)) .nil))) .nil))) (.cons (.node (.build [(.int .i64 0), (.int .i64 0)] [(0, 1), (1, 1)]) (.cons (.cst (.int .i64 1)) (.cons (.node (.bin .sub) (.cons (.var 5) (.cons (.cst (.int .i64 3)) .nil))) .nil))) (.cons (.node (.build [(.int .i64 0), (.int .i64 0)] [(0, 1), (1, 1)]) (.cons (.cst (.int .i64 1)) (.cons (.node (.bin .sub) (.cons (.var 5) (.cons (.cst (.int .i64 2)) .nil))) .nil))) (.cons (.node (.build [(.int .i64 0), (.int .i64 0)] [(0, 1), (1, 1)]) (.cons (.cst (.int .i64 1)) (.cons (.node (.bin .sub) (.cons (.var 5) (.cons (.cst (.int .i64 1)) .nil))) .nil))) .nil))))))))) (.cons (.var 3) .nil)))))
    .skip)))))
def cf41 : CF := ⟨4, 6, [], bd41⟩
def tr41 : List Nat := [0, 1, 2, 3, 8, 9]
/-- (*barscan/dmlayout.filler).free -/
def bd42 : Stm :=
  (.seq (.sets [(3, (.cst (.bool false)))] [])
  (.seq (.sets [(3, (.pick (.pick (.pick (.pick (.node (.bin .geq) (.cons (.var 1) (.cons (.cst (.int .i64 0)) .nil))) (.node (.bin .lss) (.cons (.var 1) (.cons (.node (.ld 1 false) (.cons (.node (.fAddr 0) (.cons (.node .nilChk (.cons (.var 0) .nil)) .nil)) .nil)) .nil))) (.cst (.bool false))) (.node (.bin .geq) (.cons (.var 2) (.cons (.cst (.int .i64 0)) .nil))) (.cst (.bool false))) (.node (.bin .lss) (.cons (.var 2) (.cons (.node (.ld 1 false) (.cons (.node (.fAddr 1) (.cons (.node .nilChk (.cons (.var 0) .nil)) .nil)) .nil)) .nil))) (.cst (.bool false))) (.node (.bin .lss) (.cons (.node (.ld 1 false) (.cons (.node (.iAddr 1) (.cons (.node (.ld 1 false) (.cons (.node (.fAddr 2) (.cons (.node .nilChk (.cons (.var 0) .nil)) .nil)) .nil)) (.cons (.node (.bin .add) (.cons (.node (.bin .mul) (.cons (.var 1) (.cons (.node (.ld 1 false) (.cons (.node (.fAddr 1) (.cons (.node .nilChk (.cons (.var 0) .nil)) .nil)) .nil)) .nil))) (.cons (.var 2) .nil))) .nil))) .nil)) (.cons (.cst (.int .i64 0)) .nil))) (.cst (.bool false))))] [])
  .ret))
def cf42 : CF := ⟨3, 4, [(.var 3)], bd42⟩
def tr42 : List Nat := [0, 1, 2, 6]
/-- (*barscan/dmlayout.filler).place -/
def bd43 : Stm :=
  (.hv [] [] [] none (.call false) (.cons (.cst (.func (.func 48) #[] #[])) (.cons (.var 0) (.cons (.node (.build [(.int .i64 0), (.int .i64 0), (.int .i64 0), (.int .i64 0), (.int .i64 0), (.int .i64 0), (.int .i64 0), (.int .i64 0), (.int .i64 0), (.int .i64 0), (.int .i64 0), (.int .i64 0), (.int .i64 0), (.int .i64 0), (.int .i64 0), (.int .i64 0)] [(0, 2), (2, 2), (4, 2), (6, 2), (8, 2), (10, 2), (12, 2), (14, 2)]) (.cons (.node (.build [(.int .i64 0), (.int .i64 0)] [(0, 1), (1, 1)]) (.cons (.node (.bin .sub) (.cons (.var 1) (.cons (.cst (.int .i64 2)) .nil))) (.cons (.node (.bin .sub) (.cons (.var 2) (.cons (.cst (.int .i64 2)) .nil))) .nil))) (.cons (.node (.build [(.int .i64 0), (.int .i64 0)] [(0, 1), (1, 1)]) (.cons (.node (.bin .sub) (.cons (.var 1) (.cons (.cst (.int .i64 2)) .nil))) (.cons (.node (.bin .sub) (.cons (.var 2) (.cons (.cst (.int .i64 1)) .nil))) .nil))) (.cons (.node (.build [(.int .i64 0), (.int .i64 0)] [(0, 1), (1, 1)]) (.cons (.node (.bin .sub) (.cons (.var 1) (.cons (.cst (.int .i64 1)) .nil))) (.cons (.node (.bin .sub) (.cons (.var 2) (.cons (.cst (.int .i64 2)) .nil))) .nil))) (.cons (.node (.build [(.int .i64 0), (.int .i64 0)] [(0, 1), (1, 1)]) (.cons (.node (.bin .sub) (.cons (.var 1) (.cons (.cst (.int .i64 1)) .nil))) (.cons (.node (.bin .sub) (.cons (.var 2) (.cons (.cst (.int .i64 1)) .nil))) .nil))) (.cons (.node (.build [(.int .i64 0), (.int .i64 0)] [(0, 1), (1, 1)]) (.cons (.node (.bin .sub) (.cons (.var 1) (.cons (.cst (.int .i64 1)) .nil))) (.cons (.var 2) .nil))) (.cons (.node (.build [(.int .i64 0), (.int .i64 0)] [(0, 1), (1, 1)]) (.cons (.var 1) (.cons (.node (.bin .sub) (.cons (.var 2) (.cons (.cst (.int .i64 2)) .nil))) .nil))) (.cons (.node (.build [(.int .i64 0), (.int .i64 0)] [(0, 1), (1, 1)]) (.cons (.var 1) (.cons (.node (.bin .sub) (.cons (.var 2) (.cons (.cst (.int .i64 1)) .nil))) .nil))) (.cons (.node (.build [(.int .i64 0), (.int .i64 0)] [(0, 1), (1, 1)]) (.cons (.var 1) (.cons (.var 2) .nil))) .nil))))))))) (.cons (.var 3) .nil)))))
def cf43 : CF := ⟨4, 4, [], bd43⟩
def tr43 : List Nat := [0, 1, 2, 3]
/-- (*barscan/barscanref25.grid).corners -/
def bd44 : Stm :=
  (.seq (.sets [(3, (.node (.ld 1 false) (.cons (.node (.fAddr 0) (.cons (.node .nilChk (.cons (.var 0) .nil)) .nil)) .nil)))] [])
  (.seq (.sets [(4, (.node (.ld 1 false) (.cons (.node (.fAddr 1) (.cons (.node .nilChk (.cons (.var 0) .nil)) .nil)) .nil)))] [])
  (.seq (.cond (.pick (.node (.bin .eql) (.cons (.var 1) (.cons (.var 3) .nil))) (.node (.bin .eql) (.cons (.var 2) (.cons (.cst (.int .i64 0)) .nil))) (.cst (.bool false)))
    (.hv [] [] [] none (.call false) (.cons (.cst (.func (.func 49) #[] #[])) (.cons (.var 0) (.cons (.node (.build [(.int .i64 0), (.int .i64 0), (.int .i64 0), (.int .i64 0), (.int .i64 0), (.int .i64 0), (.int .i64 0), (.int .i64 0), (.int .i64 0), (.int .i64 0), (.int .i64 0), (.int .i64 0), (.int .i64 0), (.int .i64 0), (.int .i64 0), (.int .i64 0)] [(0, 1), (1, 1), (2, 1), (3, 1), (4, 1), (5, 1), (6, 1), (7, 1), (8, 1), (9, 1), (10, 1), (11, 1), (12, 1), (13, 1), (14, 1), (15, 1)]) (.cons (.node (.bin .sub) (.cons (.var 3) (.cons (.cst (.int .i64 1)) .nil))) (.cons (.cst (.int .i64 0)) (.cons (.node (.bin .sub) (.cons (.var 3) (.cons (.cst (.int .i64 1)) .nil))) (.cons (.cst (.int .i64 1)) (.cons (.node (.bin .sub) (.cons (.var 3) (.cons (.cst (.int .i64 1)) .nil))) (.cons (.cst (.int .i64 2)) (.cons (.cst (.int .i64 0)) (.cons (.node (.bin .sub) (.cons (.var 4) (.cons (.cst (.int .i64 2)) .nil))) (.cons (.cst (.int .i64 0)) (.cons (.node (.bin .sub) (.cons (.var 4) (.cons (.cst (.int .i64 1)) .nil))) (.cons (.cst (.int .i64 1)) (.cons (.node (.bin .sub) (.cons (.var 4) (.cons (.cst (.int .i64 1)) .nil))) (.cons (.cst (.int .i64 2)) (.cons (.node (.bin .sub) (.cons (.var 4) (.cons (.cst (.int .i64 1)) .nil))) (.cons (.cst (.int .i64 3)) (.cons (.node (.bin .sub) (.cons (.var 4) (.cons (.cst (.int .i64 1)) .nil))) .nil))))))))))))))))) .nil))))
    .skip)
  (.seq (.cond (.pick (.pick (.node (.bin .eql) (.cons (.var 1) (.cons (.node (.bin .sub) (.cons (.var 3) (.cons (.cst (.int .i64 2)) .nil))) .nil))) (.node (.bin .eql) (.cons (.var 2) (.cons (.cst (.int .i64 0)) .nil))) (.cst (.bool false))) (.node (.bin .neq) (.cons (.node (.bin .rem) (.cons (.var 4) (.cons (.cst (.int .i64 4)) .nil))) (.cons (.cst (.int .i64 0)) .nil))) (.cst (.bool false)))
    (.hv [] [] [] none (.call false) (.cons (.cst (.func (.func 49) #[] #[])) (.cons (.var 0) (.cons (.node (.build [(.int .i64 0), (.int .i64 0), (.int .i64 0), (.int .i64 0), (.int .i64 0), (.int .i64 0), (.int .i64 0), (.int .i64 0), (.int .i64 0), (.int .i64 0), (.int .i64 0), (.int .i64 0), (.int .i64 0), (.int .i64 0), (.int .i64 0), (.int .i64 0)] [(0, 1), (1, 1), (2, 1), (3, 1), (4, 1), (5, 1), (6, 1), (7, 1), (8, 1), (9, 1), (10, 1), (11, 1), (12, 1), (13, 1), (14, 1), (15, 1)]) (.cons (.node (.bin .sub) (.cons (.var 3) (.cons (.cst (.int .i64 3)) .nil))) (.cons (.cst (.int .i64 0)) (.cons (.node (.bin .sub) (.cons (.var 3) (.cons (.cst (.int .i64 2)) .nil))) (.cons (.cst (.int .i64 0)) (.cons (.node (.bin .sub) (.cons (.var 3) (.cons (.cst (.int .i64 1)) .nil))) (.cons (.cst (.int .i64 0)) (.cons (.cst (.int .i64 0)) (.cons (.node (.bin .sub) (.cons (.var 4) (.cons (.cst (.int .i64 4)) .nil))) (.cons (.cst (.int .i64 0)) (.cons (.node (.bin .sub) (.cons (.var 4) (.cons (.cst (.int .i64 3)) .nil))) (.cons (.cst (.int .i64 0)) (.cons (.node (.bin .sub) (.cons (.var 4) (.cons (.cst (.int .i64 2)) .nil))) (.cons (.cst (.int .i64 0)) (.cons (.node (.bin .sub) (.cons (.var 4) (.cons (.cst (.int .i64 1)) .nil))) (.cons (.cst (.int .i64 1)) (.cons (.node (.bin .sub) (.cons (.var 4) (.cons (.cst (.int .i64 1)) .nil))) .nil))))))))))))))))) .nil))))
    .skip)
  (.seq (.cond (.pick (.pick (.node (.bin .eql) (.cons (.var 1) (.cons (.node (.bin .sub) (.cons (.var 3) (.cons (.cst (.int .i64 2)) .nil))) .nil))) (.node (.bin .eql) (.cons (.var 2) (.cons (.cst (.int .i64 0)) .nil))) (.cst (.bool false))) (.node (.bin .eql) (.cons (.node (.bin .rem) (.cons (.var 4) (.cons (.cst (.int .i64 8)) .nil))) (.cons (.cst (.int .i64 4)) .nil))) (.cst (.bool false)))
    (.hv [] [] [] none (.call false) (.cons (.cst (.func (.func 49) #[] #[])) (.cons (.var 0) (.cons (.node (.build [(.int .i64 0), (.int .i64 0), (.int .i64 0), (.int .i64 0), (.int .i64 0), (.int .i64 0), (.int .i64 0), (.int .i64 0), (.int .i64 0), (.int .i64 0), (.int .i64 0), (.int .i64 0), (.int .i64 0), (.int .i64 0), (.int .i64 0), (.int .i64 0)] [(0, 1), (1, 1), (2, 1), (3, 1), (4, 1), (5, 1), (6, 1), (7, 1), (8, 1), (9, 1), (10, 1), (11, 1), (12, 1), (13, 1), (14, 1), (15, 1)]) (.cons (.node (.bin .sub) (.cons (.var 3) (.cons (.cst (.int .i64 3)) .nil))) (.cons (.cst (.int .i64 0)) (.cons (.node (.bin .sub) (.cons (.var 3) (.cons (.cst (.int .i64 2)) .nil))) (.cons (.cst (.int .i64 0)) (.cons (.node (.bin .sub) (.cons (.var 3) (.cons (.cst (.int .i64 1)) .nil))) (.cons (.cst (.int .i64 0)) (.cons (.cst (.int .i64 0)) (.cons (.node (.bin .sub) (.cons (.var 4) (.cons (.cst (.int .i64 2)) .nil))) (.cons (.cst (.int .i64 0)) (.cons (.node (.bin .sub) (.cons (.var 4) (.cons (.cst (.int .i64 1)) .nil))) (.cons (.cst (.int .i64 1)) (.cons (.node (.bin .sub) (.cons (.var 4) (.cons (.cst (.int .i64 1)) .nil))) (.cons (.cst (.int .i64 2)) (.cons (.node (.bin .sub) (.cons (.var 4) (.cons (.cst (.int .i64 1)) .nil))) (.cons (.cst (.int .i64 3)) (.cons (.node (.bin .sub) (.cons (.var 4) (.cons (.cst (.int .i64 1)) .nil))) .nil))))))))))))))))) .nil))))
    .skip)
  (.cond (.pick (.pick (.node (.bin .eql) (.cons (.var 1) (.cons (.node (.bin .add) (.cons (.var 3) (.cons (.cst (.int .i64 4)) .nil))) .nil))) (.node (.bin .eql) (.cons (.var 2) (.cons (.cst (.int .i64 2)) .nil))) (.cst (.bool false))) (.node (.bin .eql) (.cons (.node (.bin .rem) (.cons (.var 4) (.cons (.cst (.int .i64 8)) .nil))) (.cons (.cst (.int .i64 0)) .nil))) (.cst (.bool false)))
    (.hv [] [] [] none (.call false) (.cons (.cst (.func (.func 49) #[] #[])) (.cons (.var 0) (.cons (.node (.build [(.int .i64 0), (.int .i64 0), (.int .i64 0), (.int .i64 0), (.int .i64 0), (.int .i64 0), (.int .i64 0), (.int .i64 0), (.int .i64 0), (.int .i64 0), (.int .i64 0), (.int .i64 0), (.int .i64 0), (.int .i64 0), (.int .i64 0), (.int .i64 0)] [(0, 1), (1, 1), (2, 1), (3, 1), (4, 1), (5, 1), (6, 1), (7, 1), (8, 1), (9, 1), (10, 1), (11, 1), (12, 1), (13, 1), (14, 1), (15, 1)]) (.cons (.node (.bin .sub) (.cons (.var 3) (.cons (.cst (.int .i64 1)) .nil))) (.cons (.cst (.int .i64 0)) (.cons (.node (.bin .sub) (.cons (.var 3) (.cons (.cst (.int .i64 1)) .nil))) (.cons (.node (.bin .sub) (.cons (.var 4) (.cons (.cst (.int .i64 1)) .nil))) (.cons (.cst (.int .i64 0)) (.cons (.node (.bin .sub) (.cons (.var 4) (.cons (.cst (.int .i64 3)) .nil))) (.cons (.cst (.int .i64 0)) (.cons (.node (.bin .sub) (.cons (.var 4) (.cons (.cst (.int .i64 2)) .nil))) (.cons (.cst (.int .i64 0)) (.cons (.node (.bin .sub) (.cons (.var 4) (.cons (.cst (.int .i64 1)) .nil))) (.cons (.cst (.int .i64 1)) (.cons (.node (.bin .sub) (.cons (.var 4) (.cons (.cst (.int .i64 3)) .nil))) (.cons (.cst (.int .i64 1)) (.cons (.node (.bin .sub) (.cons (.var 4) (.cons (.cst (.int .i64 2)) .nil))) (.cons (.cst (.int .i64 1)) (.cons (.node (.bin .sub) (.cons (.var 4) (.cons (.cst (.int .i64 1)) .nil))) .nil))))))))))))))))) .nil))))
    .skip))))))
def cf44 : CF := ⟨3, 5, [], bd44⟩
def tr44 : List Nat := [0, 1, 2, 6, 7]
/-- (*barscan/barscanref25.grid).place -/
def bd45 : Stm :=
  (.seq (.cond (.pick (.pick (.pick (.pick (.node (.bin .lss) (.cons (.var 1) (.cons (.cst (.int .i64 0)) .nil))) (.cst (.bool true)) (.node (.bin .geq) (.cons (.var 1) (.cons (.node (.ld 1 false) (.cons (.node (.fAddr 0) (.cons (.node .nilChk (.cons (.var 0) .nil)) .nil)) .nil)) .nil)))) (.cst (.bool true)) (.node (.bin .lss) (.cons (.var 2) (.cons (.cst (.int .i64 0)) .nil)))) (.cst (.bool true)) (.node (.bin .geq) (.cons (.var 2) (.cons (.node (.ld 1 false) (.cons (.node (.fAddr 1) (.cons (.node .nilChk (.cons (.var 0) .nil)) .nil)) .nil)) .nil)))) (.cst (.bool true)) (.node (.bin .geq) (.cons (.node (.ld 1 false) (.cons (.node (.iAddr 1) (.cons (.node (.ld 1 false) (.cons (.node (.fAddr 3) (.cons (.node .nilChk (.cons (.var 0) .nil)) .nil)) .nil)) (.cons (.node (.bin .add) (.cons (.node (.bin .mul) (.cons (.var 1) (.cons (.node (.ld 1 false) (.cons (.node (.fAddr 1) (.cons (.node .nilChk (.cons (.var 0) .nil)) .nil)) .nil)) .nil))) (.cons (.var 2) .nil))) .nil))) .nil)) (.cons (.cst (.int .i64 0)) .nil))))
    .ret
    .skip)
  (.hv [] [] [] none (.call false) (.cons (.cst (.func (.func 49) #[] #[])) (.cons (.var 0) (.cons (.node (.build [(.int .i64 0), (.int .i64 0), (.int .i64 0), (.int .i64 0), (.int .i64 0), (.int .i64 0), (.int .i64 0), (.int .i64 0), (.int .i64 0), (.int .i64 0), (.int .i64 0), (.int .i64 0), (.int .i64 0), (.int .i64 0), (.int .i64 0), (.int .i64 0)] [(0, 1), (1, 1), (2, 1), (3, 1), (4, 1), (5, 1), (6, 1), (7, 1), (8, 1), (9, 1), (10, 1), (11, 1), (12, 1), (13, 1), (14, 1), (15, 1)]) (.cons (.node (.bin .sub) (.cons (.var 1) (.cons (.cst (.int .i64 2)) .nil))) (.cons (.node (.bin .sub) (.cons (.var 2) (.cons (.cst (.int .i64 2)) .nil))) (.cons (.node (.bin .sub) (.cons (.var 1) (.cons (.cst (.int .i64 2)) .nil))) (.cons (.node (.bin .sub) (.cons (.var 2) (.cons (.cst (.int .i64 1)) .nil))) (.cons (.node (.bin .sub) (.cons (.var 1) (.cons (.cst (.int .i64 1)) .nil))) (.cons (.node (.bin .sub) (.cons (.var 2) (.cons (.cst (.int .i64 2)) .nil))) (.cons (.node (.bin .sub) (.cons (.var 1) (.cons (.cst (.int .i64 1)) .nil))) (.cons (.node (.bin .sub) (.cons (.var 2) (.cons (.cst (.int .i64 1)) .nil))) (.cons (.node (.bin .sub) (.cons (.var 1) (.cons (.cst (.int .i64 1)) .nil))) (.cons (.var 2) (.cons (.var 1) (.cons (.node (.bin .sub) (.cons (.var 2) (.cons (.cst (.int .i64 2)) .nil))) (.cons (.var 1) (.cons (.node (.bin .sub) (.cons (.var 2) (.cons (.cst (.int .i64 1)) .nil))) (.cons (.var 1) (.cons (.var 2) .nil))))))))))))))))) .nil)))))
def cf45 : CF := ⟨3, 3, [], bd45⟩
def tr45 : List Nat := [0, 1, 2]
/-- slices.Index[[]barscan/api.DMSize,barscan/api.DMSize] -/
def bd46 : Stm :=
  (.seq (.seq (.hv [] [] [] (some 2) .box (.cons (.var 1) .nil))
  (.sets [(3, (.cst (.int .i64 0)))] []))
  (.seq (.seq (.sets [(6, (.cst (.int .i64 0))), (5, (.node .len (.cons (.var 0) .nil)))] [])
  (.block 0 (.loop
    (.seq (.cond (.node (.bin .lss) (.cons (.var 6) (.cons (.var 5) .nil)))
      .skip
      (.exit 0))
    (.seq (.block 1 (.seq (.sets [(4, (.var 6))] [])
    (.cond (.node (.eqA false [1, 1, 1, 1, 1, 1, 1]) (.cons (.node (.ld 7 true) (.cons (.var 2) .nil)) (.cons (.node (.ld 7 true) (.cons (.node (.iAddr 7) (.cons (.var 0) (.cons (.var 4) .nil))) .nil)) .nil)))
      (.seq (.sets [(3, (.var 4))] [])
      .ret)
      .skip)))
    (.sets [(6, (.node (.bin .add) (.cons (.var 6) (.cons (.cst (.int .i64 1)) .nil))))] []))))))
  (.seq (.sets [(3, (.cst (.int .i64 (-1))))] [])
  .ret)))
def cf46 : CF := ⟨2, 7, [(.var 3)], bd46⟩
def tr46 : List Nat := [0, 1, 3, 4, 5, 7, 8]
/-- math/bits.Mul -/
def bd47 : Stm :=
  (.seq (.seq (.sets [(3, (.cst (.int .u64 0))), (2, (.cst (.int .u64 0)))] [])
  (.cond (.cst (.bool false))
    (.seq (.seq (.hv [] [] [] (some 8) (.call false) (.cons (.cst (.func (.func 50) #[] #[])) (.cons (.node (.cvt .u32) (.cons (.var 0) .nil)) (.cons (.node (.cvt .u32) (.cons (.var 1) .nil)) .nil))))
    (.sets [(5, (.node (.ext 1) (.cons (.var 8) .nil))), (4, (.node (.ext 0) (.cons (.var 8) .nil)))] []))
    (.seq (.sets [(3, (.node (.cvt .u64) (.cons (.var 5) .nil))), (2, (.node (.cvt .u64) (.cons (.var 4) .nil)))] [])
    .ret))
    .skip))
  (.seq (.seq (.hv [] [] [] (some 9) (.call false) (.cons (.cst (.func (.func 51) #[] #[])) (.cons (.var 0) (.cons (.var 1) .nil))))
  (.sets [(7, (.node (.ext 1) (.cons (.var 9) .nil))), (6, (.node (.ext 0) (.cons (.var 9) .nil)))] []))
  (.seq (.sets [(3, (.var 7)), (2, (.var 6))] [])
  .ret)))
def cf47 : CF := ⟨2, 10, [(.var 2), (.var 3)], bd47⟩
def tr47 : List Nat := [0, 1, 4, 5, 6, 7, 8, 9, 15, 25]
/-- (*barscan/dmlayout.filler).each -/
def bd48 : Stm :=
  (.seq (.hv [] [] [] (some 3) .box (.cons (.var 1) .nil))
  (.seq (.seq (.sets [(7, (.cst (.int .i64 0))), (6, (.node (.ld 16 true) (.cons (.var 3) .nil)))] [])
  (.block 0 (.loop
    (.seq (.cond (.node (.bin .lss) (.cons (.var 7) (.cons (.cst (.int .i64 8)) .nil)))
      .skip
      (.exit 0))
    (.seq (.block 1 (.seq (.seq (.hv [(9, (.node (.idx 8 2 true) (.cons (.var 6) (.cons (.var 7) .nil)))), (8, (.var 7))] [] [] (some 5) (.alloc [(.int .i64 0), (.int .i64 0)]) .nil)
    (.hv [(4, (.var 8))] [] [] none (.st 2) (.cons (.var 5) (.cons (.var 9) .nil))))
    (.hv [] [] [] none (.call false) (.cons (.var 2) (.cons (.node (.ld 1 false) (.cons (.node (.iAddrA 2 1) (.cons (.var 5) (.cons (.cst (.int .i64 0)) .nil))) .nil)) (.cons (.node (.ld 1 false) (.cons (.node (.iAddrA 2 1) (.cons (.var 5) (.cons (.cst (.int .i64 1)) .nil))) .nil)) (.cons (.var 4) .nil)))))))
    (.sets [(7, (.node (.bin .add) (.cons (.var 7) (.cons (.cst (.int .i64 1)) .nil))))] []))))))
  (.hv [] [] [] none (.st 1) (.cons (.node (.fAddr 3) (.cons (.node .nilChk (.cons (.var 0) .nil)) .nil)) (.cons (.node (.bin .add) (.cons (.node (.ld 1 false) (.cons (.node (.fAddr 3) (.cons (.node .nilChk (.cons (.var 0) .nil)) .nil)) .nil)) (.cons (.cst (.int .i64 1)) .nil))) .nil)))))
def cf48 : CF := ⟨3, 10, [], bd48⟩
def tr48 : List Nat := [0, 1, 2, 4, 6, 7, 8, 9, 11, 12]
/-- (*barscan/barscanref25.grid).corner -/
def bd49 : Stm :=
  (.seq (.hv [] [] [] (some 2) .box (.cons (.var 1) .nil))
  (.seq (.seq (.sets [(3, (.cst (.int .i64 0)))] [])
  (.block 0 (.loop
    (.seq (.cond (.node (.bin .lss) (.cons (.var 3) (.cons (.cst (.int .i64 8)) .nil)))
      .skip
      (.exit 0))
    (.seq (.block 1 (.hv [] [] [] none (.call false) (.cons (.cst (.func (.func 52) #[] #[])) (.cons (.var 0) (.cons (.node (.ld 1 false) (.cons (.node (.iAddrA 16 1) (.cons (.var 2) (.cons (.node (.bin .mul) (.cons (.cst (.int .i64 2)) (.cons (.var 3) .nil))) .nil))) .nil)) (.cons (.node (.ld 1 false) (.cons (.node (.iAddrA 16 1) (.cons (.var 2) (.cons (.node (.bin .add) (.cons (.node (.bin .mul) (.cons (.cst (.int .i64 2)) (.cons (.var 3) .nil))) (.cons (.cst (.int .i64 1)) .nil))) .nil))) .nil)) (.cons (.var 3) .nil)))))))
    (.sets [(3, (.node (.bin .add) (.cons (.var 3) (.cons (.cst (.int .i64 1)) .nil))))] []))))))
  (.hv [] [] [] none (.st 1) (.cons (.node (.fAddr 2) (.cons (.node .nilChk (.cons (.var 0) .nil)) .nil)) (.cons (.node (.bin .add) (.cons (.node (.ld 1 false) (.cons (.node (.fAddr 2) (.cons (.node .nilChk (.cons (.var 0) .nil)) .nil)) .nil)) (.cons (.cst (.int .i64 1)) .nil))) .nil)))))
def cf49 : CF := ⟨2, 4, [], bd49⟩
def tr49 : List Nat := [0, 1, 3, 4]
/-- math/bits.Mul32 -/
def bd50 : Stm :=
  (.seq (.sets [(3, (.cst (.int .u32 0))), (2, (.cst (.int .u32 0)))] [])
  (.seq (.sets [(4, (.node (.bin .mul) (.cons (.node (.cvt .u64) (.cons (.var 0) .nil)) (.cons (.node (.cvt .u64) (.cons (.var 1) .nil)) .nil))))] [])
  (.seq (.sets [(3, (.node (.cvt .u32) (.cons (.var 4) .nil))), (2, (.node (.cvt .u32) (.cons (.node (.bin .shr) (.cons (.var 4) (.cons (.cst (.int .u64 32)) .nil))) .nil)))] [])
  .ret)))
def cf50 : CF := ⟨2, 5, [(.var 2), (.var 3)], bd50⟩
def tr50 : List Nat := [0, 1, 4, 5, 6]
/-- math/bits.Mul64 -/
def bd51 : Stm :=
  (.seq (.sets [(3, (.cst (.int .u64 0))), (2, (.cst (.int .u64 0)))] [])
  (.seq (.sets [(4, (.node (.bin .and) (.cons (.var 0) (.cons (.cst (.int .u64 4294967295)) .nil))))] [])
  (.seq (.sets [(5, (.node (.bin .shr) (.cons (.var 0) (.cons (.cst (.int .u64 32)) .nil))))] [])
  (.seq (.sets [(6, (.node (.bin .and) (.cons (.var 1) (.cons (.cst (.int .u64 4294967295)) .nil))))] [])
  (.seq (.sets [(7, (.node (.bin .shr) (.cons (.var 1) (.cons (.cst (.int .u64 32)) .nil))))] [])
  (.seq (.sets [(8, (.node (.bin .mul) (.cons (.var 4) (.cons (.var 6) .nil))))] [])
  (.seq (.sets [(9, (.node (.bin .add) (.cons (.node (.bin .mul) (.cons (.var 5) (.cons (.var 6) .nil))) (.cons (.node (.bin .shr) (.cons (.var 8) (.cons (.cst (.int .u64 32)) .nil))) .nil))))] [])
  (.seq (.sets [(10, (.node (.bin .and) (.cons (.var 9) (.cons (.cst (.int .u64 4294967295)) .nil))))] [])
  (.seq (.sets [(11, (.node (.bin .shr) (.cons (.var 9) (.cons (.cst (.int .u64 32)) .nil))))] [])
  (.seq (.sets [(10, (.node (.bin .add) (.cons (.var 10) (.cons (.node (.bin .mul) (.cons (.var 4) (.cons (.var 7) .nil))) .nil))))] [])
  (.seq (.sets [(2, (.node (.bin .add) (.cons (.node (.bin .add) (.cons (.node (.bin .mul) (.cons (.var 5) (.cons (.var 7) .nil))) (.cons (.var 11) .nil))) (.cons (.node (.bin .shr) (.cons (.var 10) (.cons (.cst (.int .u64 32)) .nil))) .nil))))] [])
  (.seq (.sets [(3, (.node (.bin .mul) (.cons (.var 0) (.cons (.var 1) .nil))))] [])
  .ret))))))))))))
def cf51 : CF := ⟨2, 12, [(.var 2), (.var 3)], bd51⟩
def tr51 : List Nat := [0, 1, 4, 5, 6, 7, 8, 9, 10, 11, 12, 13]
/-- (*barscan/barscanref25.grid).assign -/
def bd52 : Stm :=
  (.seq (.cond (.node (.bin .lss) (.cons (.var 1) (.cons (.cst (.int .i64 0)) .nil)))
    (.seq (.sets [(1, (.node (.bin .add) (.cons (.var 1) (.cons (.node (.ld 1 false) (.cons (.node (.fAddr 0) (.cons (.node .nilChk (.cons (.var 0) .nil)) .nil)) .nil)) .nil))))] [])
    (.sets [(2, (.node (.bin .sub) (.cons (.node (.bin .add) (.cons (.var 2) (.cons (.cst (.int .i64 4)) .nil))) (.cons (.node (.bin .rem) (.cons (.node (.bin .add) (.cons (.node (.ld 1 false) (.cons (.node (.fAddr 0) (.cons (.node .nilChk (.cons (.var 0) .nil)) .nil)) .nil)) (.cons (.cst (.int .i64 4)) .nil))) (.cons (.cst (.int .i64 8)) .nil))) .nil))))] []))
    .skip)
  (.seq (.cond (.node (.bin .lss) (.cons (.var 2) (.cons (.cst (.int .i64 0)) .nil)))
    (.seq (.sets [(2, (.node (.bin .add) (.cons (.var 2) (.cons (.node (.ld 1 false) (.cons (.node (.fAddr 1) (.cons (.node .nilChk (.cons (.var 0) .nil)) .nil)) .nil)) .nil))))] [])
    (.sets [(1, (.node (.bin .sub) (.cons (.node (.bin .add) (.cons (.var 1) (.cons (.cst (.int .i64 4)) .nil))) (.cons (.node (.bin .rem) (.cons (.node (.bin .add) (.cons (.node (.ld 1 false) (.cons (.node (.fAddr 1) (.cons (.node .nilChk (.cons (.var 0) .nil)) .nil)) .nil)) (.cons (.cst (.int .i64 4)) .nil))) (.cons (.cst (.int .i64 8)) .nil))) .nil))))] []))
    .skip)
  (.hv [] [] [] none (.st 1) (.cons (.node (.iAddr 1) (.cons (.node (.ld 1 false) (.cons (.node (.fAddr 3) (.cons (.node .nilChk (.cons (.var 0) .nil)) .nil)) .nil)) (.cons (.node (.bin .add) (.cons (.node (.bin .mul) (.cons (.var 1) (.cons (.node (.ld 1 false) (.cons (.node (.fAddr 1) (.cons (.node .nilChk (.cons (.var 0) .nil)) .nil)) .nil)) .nil))) (.cons (.var 2) .nil))) .nil))) (.cons (.node (.bin .add) (.cons (.node (.bin .mul) (.cons (.cst (.int .i64 8)) (.cons (.node (.ld 1 false) (.cons (.node (.fAddr 2) (.cons (.node .nilChk (.cons (.var 0) .nil)) .nil)) .nil)) .nil))) (.cons (.var 3) .nil))) .nil)))))
def cf52 : CF := ⟨4, 4, [], bd52⟩
def tr52 : List Nat := [0, 1, 2, 3]
theorem is2 : compFunc Try.prog tr2 2 = some cf2 := by kernel_rfl
theorem is3 : compFunc Try.prog tr3 3 = some cf3 := by kernel_rfl
theorem is4 : compFunc Try.prog tr4 4 = some cf4 := by kernel_rfl
theorem is5 : compFunc Try.prog tr5 5 = some cf5 := by kernel_rfl
theorem is6 : compFunc Try.prog tr6 6 = some cf6 := by kernel_rfl
theorem is7 : compFunc Try.prog tr7 7 = some cf7 := by kernel_rfl
theorem is8 : compFunc Try.prog tr8 8 = some cf8 := by kernel_rfl
theorem is9 : compFunc Try.prog tr9 9 = some cf9 := by kernel_rfl
theorem is10 : compFunc Try.prog tr10 10 = some cf10 := by kernel_rfl
theorem is11 : compFunc Try.prog tr11 11 = some cf11 := by kernel_rfl
theorem is12 : compFunc Try.prog tr12 12 = some cf12 := by kernel_rfl
theorem is13 : compFunc Try.prog tr13 13 = some cf13 := by kernel_rfl
theorem is14 : compFunc Try.prog tr14 14 = some cf14 := by kernel_rfl
theorem is15 : compFunc Try.prog tr15 15 = some cf15 := by kernel_rfl
theorem is16 : compFunc Try.prog tr16 16 = some cf16 := by kernel_rfl
theorem is17 : compFunc Try.prog tr17 17 = some cf17 := by kernel_rfl
theorem is18 : compFunc Try.prog tr18 18 = some cf18 := by kernel_rfl
theorem is19 : compFunc Try.prog tr19 19 = some cf19 := by kernel_rfl
theorem is20 : compFunc Try.prog tr20 20 = some cf20 := by kernel_rfl
theorem is21 : compFunc Try.prog tr21 21 = some cf21 := by kernel_rfl
theorem is22 : compFunc Try.prog tr22 22 = some cf22 := by kernel_rfl
theorem is23 : compFunc Try.prog tr23 23 = some cf23 := by kernel_rfl
theorem is24 : compFunc Try.prog tr24 24 = some cf24 := by kernel_rfl
theorem is25 : compFunc Try.prog tr25 25 = some cf25 := by kernel_rfl
theorem is26 : compFunc Try.prog tr26 26 = some cf26 := by kernel_rfl
theorem is27 : compFunc Try.prog tr27 27 = some cf27 := by kernel_rfl
theorem is28 : compFunc Try.prog tr28 28 = some cf28 := by kernel_rfl
theorem is29 : compFunc Try.prog tr29 29 = some cf29 := by kernel_rfl
theorem is30 : compFunc Try.prog tr30 30 = some cf30 := by kernel_rfl
theorem is31 : compFunc Try.prog tr31 31 = some cf31 := by kernel_rfl
theorem is32 : compFunc Try.prog tr32 32 = some cf32 := by kernel_rfl
theorem is33 : compFunc Try.prog tr33 33 = some cf33 := by kernel_rfl
theorem is34 : compFunc Try.prog tr34 34 = some cf34 := by kernel_rfl
theorem is35 : compFunc Try.prog tr35 35 = some cf35 := by kernel_rfl
theorem is36 : compFunc Try.prog tr36 36 = some cf36 := by kernel_rfl
theorem is37 : compFunc Try.prog tr37 37 = some cf37 := by kernel_rfl
theorem is38 : compFunc Try.prog tr38 38 = some cf38 := by kernel_rfl
theorem is39 : compFunc Try.prog tr39 39 = some cf39 := by kernel_rfl
theorem is40 : compFunc Try.prog tr40 40 = some cf40 := by kernel_rfl
theorem is41 : compFunc Try.prog tr41 41 = some cf41 := by kernel_rfl
theorem is42 : compFunc Try.prog tr42 42 = some cf42 := by kernel_rfl
theorem is43 : compFunc Try.prog tr43 43 = some cf43 := by kernel_rfl
theorem is44 : compFunc Try.prog tr44 44 = some cf44 := by kernel_rfl
theorem is45 : compFunc Try.prog tr45 45 = some cf45 := by kernel_rfl
theorem is46 : compFunc Try.prog tr46 46 = some cf46 := by kernel_rfl
theorem is47 : compFunc Try.prog tr47 47 = some cf47 := by kernel_rfl
theorem is48 : compFunc Try.prog tr48 48 = some cf48 := by kernel_rfl
theorem is49 : compFunc Try.prog tr49 49 = some cf49 := by kernel_rfl
theorem is50 : compFunc Try.prog tr50 50 = some cf50 := by kernel_rfl
theorem is51 : compFunc Try.prog tr51 51 = some cf51 := by kernel_rfl
theorem is52 : compFunc Try.prog tr52 52 = some cf52 := by kernel_rfl
def cp : FuncId → Option CF
  | 2 => some cf2
  | 3 => some cf3
  | 4 => some cf4
  | 5 => some cf5
  | 6 => some cf6
  | 7 => some cf7
  | 8 => some cf8
  | 9 => some cf9
  | 10 => some cf10
  | 11 => some cf11
  | 12 => some cf12
  | 13 => some cf13
  | 14 => some cf14
  | 15 => some cf15
  | 16 => some cf16
  | 17 => some cf17
  | 18 => some cf18
  | 19 => some cf19
  | 20 => some cf20
  | 21 => some cf21
  | 22 => some cf22
  | 23 => some cf23
  | 24 => some cf24
  | 25 => some cf25
  | 26 => some cf26
  | 27 => some cf27
  | 28 => some cf28
  | 29 => some cf29
  | 30 => some cf30
  | 31 => some cf31
  | 32 => some cf32
  | 33 => some cf33
  | 34 => some cf34
  | 35 => some cf35
  | 36 => some cf36
  | 37 => some cf37
  | 38 => some cf38
  | 39 => some cf39
  | 40 => some cf40
  | 41 => some cf41
  | 42 => some cf42
  | 43 => some cf43
  | 44 => some cf44
  | 45 => some cf45
  | 46 => some cf46
  | 47 => some cf47
  | 48 => some cf48
  | 49 => some cf49
  | 50 => some cf50
  | 51 => some cf51
  | 52 => some cf52
  | _ => none
theorem compiled : Compiled Try.prog cp := by
  intro f cf h
  unfold cp at h
  split at h
  · cases h; exact ⟨_, is2⟩
  · cases h; exact ⟨_, is3⟩
  · cases h; exact ⟨_, is4⟩
  · cases h; exact ⟨_, is5⟩
  · cases h; exact ⟨_, is6⟩
  · cases h; exact ⟨_, is7⟩
  · cases h; exact ⟨_, is8⟩
  · cases h; exact ⟨_, is9⟩
  · cases h; exact ⟨_, is10⟩
  · cases h; exact ⟨_, is11⟩
  · cases h; exact ⟨_, is12⟩
  · cases h; exact ⟨_, is13⟩
  · cases h; exact ⟨_, is14⟩
  · cases h; exact ⟨_, is15⟩
  · cases h; exact ⟨_, is16⟩
  · cases h; exact ⟨_, is17⟩
  · cases h; exact ⟨_, is18⟩
  · cases h; exact ⟨_, is19⟩
  · cases h; exact ⟨_, is20⟩
  · cases h; exact ⟨_, is21⟩
  · cases h; exact ⟨_, is22⟩
  · cases h; exact ⟨_, is23⟩
  · cases h; exact ⟨_, is24⟩
  · cases h; exact ⟨_, is25⟩
  · cases h; exact ⟨_, is26⟩
  · cases h; exact ⟨_, is27⟩
  · cases h; exact ⟨_, is28⟩
  · cases h; exact ⟨_, is29⟩
  · cases h; exact ⟨_, is30⟩
  · cases h; exact ⟨_, is31⟩
  · cases h; exact ⟨_, is32⟩
  · cases h; exact ⟨_, is33⟩
  · cases h; exact ⟨_, is34⟩
  · cases h; exact ⟨_, is35⟩
  · cases h; exact ⟨_, is36⟩
  · cases h; exact ⟨_, is37⟩
  · cases h; exact ⟨_, is38⟩
  · cases h; exact ⟨_, is39⟩
  · cases h; exact ⟨_, is40⟩
  · cases h; exact ⟨_, is41⟩
  · cases h; exact ⟨_, is42⟩
  · cases h; exact ⟨_, is43⟩
  · cases h; exact ⟨_, is44⟩
  · cases h; exact ⟨_, is45⟩
  · cases h; exact ⟨_, is46⟩
  · cases h; exact ⟨_, is47⟩
  · cases h; exact ⟨_, is48⟩
  · cases h; exact ⟨_, is49⟩
  · cases h; exact ⟨_, is50⟩
  · cases h; exact ⟨_, is51⟩
  · cases h; exact ⟨_, is52⟩
  · simp at h
theorem mixed : Try.prog.follows .mixedOrders = true := by kernel_rfl
theorem okAll (base n : Nat) : CallOK Try.prog base Try.prog.globals.size (run cp n) := sound mixed compiled base n
theorem st2 {lo : Nat} {H : Heap} {R : Value → Heap → Prop} (h : wpS cp lo bd2 (bodyQ cf2 R) [] H) : Ev cp lo 2 [] H R := ev_of_wp (cf := cf2) rfl rfl h
theorem st3 {lo : Nat} {H : Heap} {R : Value → Heap → Prop} {a0 a1 : Value} (h : wpS cp lo bd3 (bodyQ cf3 R) [a0, a1, undef, undef, undef, undef, undef, undef, undef, undef, undef, undef, undef, undef, undef, undef, undef, undef, undef, undef, undef, undef] H) : Ev cp lo 3 [a0, a1] H R := ev_of_wp (cf := cf3) rfl rfl h
theorem st4 {lo : Nat} {H : Heap} {R : Value → Heap → Prop} {a0 a1 : Value} (h : wpS cp lo bd4 (bodyQ cf4 R) [a0, a1, undef, undef, undef, undef, undef, undef, undef, undef, undef, undef] H) : Ev cp lo 4 [a0, a1] H R := ev_of_wp (cf := cf4) rfl rfl h
theorem st5 {lo : Nat} {H : Heap} {R : Value → Heap → Prop} {a0 a1 : Value} (h : wpS cp lo bd5 (bodyQ cf5 R) [a0, a1, undef, undef, undef, undef, undef, undef, undef, undef, undef, undef, undef, undef, undef, undef, undef] H) : Ev cp lo 5 [a0, a1] H R := ev_of_wp (cf := cf5) rfl rfl h
theorem st6 {lo : Nat} {H : Heap} {R : Value → Heap → Prop} {a0 : Value} (h : wpS cp lo bd6 (bodyQ cf6 R) [a0, undef, undef, undef, undef, undef, undef, undef, undef, undef, undef, undef, undef, undef, undef, undef, undef, undef, undef, undef, undef, undef] H) : Ev cp lo 6 [a0] H R := ev_of_wp (cf := cf6) rfl rfl h
theorem st7 {lo : Nat} {H : Heap} {R : Value → Heap → Prop} {a0 a1 : Value} (h : wpS cp lo bd7 (bodyQ cf7 R) [a0, a1, undef, undef, undef, undef, undef, undef, undef, undef, undef, undef, undef, undef, undef, undef, undef] H) : Ev cp lo 7 [a0, a1] H R := ev_of_wp (cf := cf7) rfl rfl h
theorem st8 {lo : Nat} {H : Heap} {R : Value → Heap → Prop} {a0 : Value} (h : wpS cp lo bd8 (bodyQ cf8 R) [a0, undef, undef, undef, undef, undef, undef, undef, undef, undef, undef, undef, undef, undef, undef, undef, undef, undef, undef, undef, undef] H) : Ev cp lo 8 [a0] H R := ev_of_wp (cf := cf8) rfl rfl h
theorem st9 {lo : Nat} {H : Heap} {R : Value → Heap → Prop} {a0 a1 : Value} (h : wpS cp lo bd9 (bodyQ cf9 R) [a0, a1, undef, undef, undef, undef, undef, undef, undef, undef, undef, undef, undef, undef, undef, undef, undef, undef, undef, undef, undef, undef] H) : Ev cp lo 9 [a0, a1] H R := ev_of_wp (cf := cf9) rfl rfl h
theorem st10 {lo : Nat} {H : Heap} {R : Value → Heap → Prop} (h : wpS cp lo bd10 (bodyQ cf10 R) [undef, undef, undef, undef, undef, undef, undef, undef, undef, undef, undef] H) : Ev cp lo 10 [] H R := ev_of_wp (cf := cf10) rfl rfl h
theorem st11 {lo : Nat} {H : Heap} {R : Value → Heap → Prop} (h : wpS cp lo bd11 (bodyQ cf11 R) [undef, undef, undef, undef, undef, undef, undef, undef, undef] H) : Ev cp lo 11 [] H R := ev_of_wp (cf := cf11) rfl rfl h
theorem st12 {lo : Nat} {H : Heap} {R : Value → Heap → Prop} {a0 a1 : Value} (h : wpS cp lo bd12 (bodyQ cf12 R) [a0, a1, undef, undef, undef, undef, undef, undef, undef, undef] H) : Ev cp lo 12 [a0, a1] H R := ev_of_wp (cf := cf12) rfl rfl h
theorem st13 {lo : Nat} {H : Heap} {R : Value → Heap → Prop} {a0 a1 : Value} (h : wpS cp lo bd13 (bodyQ cf13 R) [a0, a1, undef, undef, undef, undef, undef, undef, undef, undef, undef] H) : Ev cp lo 13 [a0, a1] H R := ev_of_wp (cf := cf13) rfl rfl h
theorem st14 {lo : Nat} {H : Heap} {R : Value → Heap → Prop} (h : wpS cp lo bd14 (bodyQ cf14 R) [undef, undef, undef, undef, undef, undef, undef, undef, undef, undef, undef, undef, undef, undef, undef, undef, undef, undef, undef, undef, undef, undef, undef, undef, undef, undef, undef, undef, undef, undef, undef] H) : Ev cp lo 14 [] H R := ev_of_wp (cf := cf14) rfl rfl h
theorem st15 {lo : Nat} {H : Heap} {R : Value → Heap → Prop} {a0 a1 : Value} (h : wpS cp lo bd15 (bodyQ cf15 R) [a0, a1, undef, undef, undef, undef, undef, undef, undef, undef, undef, undef, undef] H) : Ev cp lo 15 [a0, a1] H R := ev_of_wp (cf := cf15) rfl rfl h
theorem st16 {lo : Nat} {H : Heap} {R : Value → Heap → Prop} {a0 a1 : Value} (h : wpS cp lo bd16 (bodyQ cf16 R) [a0, a1, undef, undef, undef, undef, undef, undef, undef, undef, undef] H) : Ev cp lo 16 [a0, a1] H R := ev_of_wp (cf := cf16) rfl rfl h
theorem st17 {lo : Nat} {H : Heap} {R : Value → Heap → Prop} {a0 a1 : Value} (h : wpS cp lo bd17 (bodyQ cf17 R) [a0, a1, undef, undef] H) : Ev cp lo 17 [a0, a1] H R := ev_of_wp (cf := cf17) rfl rfl h
theorem st18 {lo : Nat} {H : Heap} {R : Value → Heap → Prop} {a0 a1 : Value} (h : wpS cp lo bd18 (bodyQ cf18 R) [a0, a1, undef, undef, undef, undef, undef, undef, undef, undef, undef, undef, undef, undef, undef, undef, undef, undef, undef, undef, undef, undef, undef, undef, undef, undef, undef, undef, undef, undef, undef] H) : Ev cp lo 18 [a0, a1] H R := ev_of_wp (cf := cf18) rfl rfl h
theorem st19 {lo : Nat} {H : Heap} {R : Value → Heap → Prop} {a0 a1 : Value} (h : wpS cp lo bd19 (bodyQ cf19 R) [a0, a1, undef, undef, undef, undef, undef, undef, undef, undef, undef, undef, undef, undef, undef, undef, undef, undef, undef, undef, undef, undef, undef, undef, undef, undef, undef, undef] H) : Ev cp lo 19 [a0, a1] H R := ev_of_wp (cf := cf19) rfl rfl h
theorem st20 {lo : Nat} {H : Heap} {R : Value → Heap → Prop} {a0 a1 : Value} (h : wpS cp lo bd20 (bodyQ cf20 R) [a0, a1, undef, undef, undef, undef] H) : Ev cp lo 20 [a0, a1] H R := ev_of_wp (cf := cf20) rfl rfl h
theorem st21 {lo : Nat} {H : Heap} {R : Value → Heap → Prop} {a0 : Value} (h : wpS cp lo bd21 (bodyQ cf21 R) [a0, undef, undef, undef] H) : Ev cp lo 21 [a0] H R := ev_of_wp (cf := cf21) rfl rfl h
theorem st22 {lo : Nat} {H : Heap} {R : Value → Heap → Prop} {a0 : Value} (h : wpS cp lo bd22 (bodyQ cf22 R) [a0, undef, undef, undef, undef, undef, undef, undef, undef, undef, undef, undef, undef, undef, undef, undef, undef, undef, undef, undef, undef, undef, undef, undef, undef] H) : Ev cp lo 22 [a0] H R := ev_of_wp (cf := cf22) rfl rfl h
theorem st23 {lo : Nat} {H : Heap} {R : Value → Heap → Prop} {a0 : Value} (h : wpS cp lo bd23 (bodyQ cf23 R) [a0, undef, undef, undef, undef, undef, undef, undef, undef, undef, undef, undef, undef, undef, undef, undef, undef, undef, undef, undef, undef, undef, undef, undef, undef, undef, undef] H) : Ev cp lo 23 [a0] H R := ev_of_wp (cf := cf23) rfl rfl h
theorem st24 {lo : Nat} {H : Heap} {R : Value → Heap → Prop} {a0 : Value} (h : wpS cp lo bd24 (bodyQ cf24 R) [a0, undef, undef] H) : Ev cp lo 24 [a0] H R := ev_of_wp (cf := cf24) rfl rfl h
theorem st25 {lo : Nat} {H : Heap} {R : Value → Heap → Prop} {a0 : Value} (h : wpS cp lo bd25 (bodyQ cf25 R) [a0, undef, undef, undef] H) : Ev cp lo 25 [a0] H R := ev_of_wp (cf := cf25) rfl rfl h
theorem st26 {lo : Nat} {H : Heap} {R : Value → Heap → Prop} {a0 a1 : Value} (h : wpS cp lo bd26 (bodyQ cf26 R) [a0, a1, undef, undef, undef, undef, undef, undef, undef, undef, undef, undef, undef, undef, undef, undef, undef] H) : Ev cp lo 26 [a0, a1] H R := ev_of_wp (cf := cf26) rfl rfl h
theorem st27 {lo : Nat} {H : Heap} {R : Value → Heap → Prop} {a0 : Value} (h : wpS cp lo bd27 (bodyQ cf27 R) [a0, undef, undef, undef] H) : Ev cp lo 27 [a0] H R := ev_of_wp (cf := cf27) rfl rfl h
theorem st28 {lo : Nat} {H : Heap} {R : Value → Heap → Prop} {a0 a1 : Value} (h : wpS cp lo bd28 (bodyQ cf28 R) [a0, a1, undef, undef, undef, undef, undef, undef, undef, undef, undef, undef] H) : Ev cp lo 28 [a0, a1] H R := ev_of_wp (cf := cf28) rfl rfl h
theorem st29 {lo : Nat} {H : Heap} {R : Value → Heap → Prop} {a0 a1 : Value} (h : wpS cp lo bd29 (bodyQ cf29 R) [a0, a1, undef, undef] H) : Ev cp lo 29 [a0, a1] H R := ev_of_wp (cf := cf29) rfl rfl h
theorem st30 {lo : Nat} {H : Heap} {R : Value → Heap → Prop} {a0 a1 : Value} (h : wpS cp lo bd30 (bodyQ cf30 R) [a0, a1, undef, undef, undef] H) : Ev cp lo 30 [a0, a1] H R := ev_of_wp (cf := cf30) rfl rfl h
theorem st31 {lo : Nat} {H : Heap} {R : Value → Heap → Prop} {a0 a1 a2 : Value} (h : wpS cp lo bd31 (bodyQ cf31 R) [a0, a1, a2, undef, undef, undef, undef, undef, undef, undef, undef] H) : Ev cp lo 31 [a0, a1, a2] H R := ev_of_wp (cf := cf31) rfl rfl h
theorem st32 {lo : Nat} {H : Heap} {R : Value → Heap → Prop} {a0 a1 a2 : Value} (h : wpS cp lo bd32 (bodyQ cf32 R) [a0, a1, a2, undef, undef, undef] H) : Ev cp lo 32 [a0, a1, a2] H R := ev_of_wp (cf := cf32) rfl rfl h
theorem st33 {lo : Nat} {H : Heap} {R : Value → Heap → Prop} {a0 a1 a2 : Value} (h : wpS cp lo bd33 (bodyQ cf33 R) [a0, a1, a2, undef, undef, undef, undef, undef] H) : Ev cp lo 33 [a0, a1, a2] H R := ev_of_wp (cf := cf33) rfl rfl h
theorem st34 {lo : Nat} {H : Heap} {R : Value → Heap → Prop} {a0 a1 a2 : Value} (h : wpS cp lo bd34 (bodyQ cf34 R) [a0, a1, a2, undef, undef, undef, undef, undef, undef] H) : Ev cp lo 34 [a0, a1, a2] H R := ev_of_wp (cf := cf34) rfl rfl h
theorem st35 {lo : Nat} {H : Heap} {R : Value → Heap → Prop} {a0 : Value} (h : wpS cp lo bd35 (bodyQ cf35 R) [a0, undef, undef] H) : Ev cp lo 35 [a0] H R := ev_of_wp (cf := cf35) rfl rfl h
theorem st36 {lo : Nat} {H : Heap} {R : Value → Heap → Prop} {a0 a1 : Value} (h : wpS cp lo bd36 (bodyQ cf36 R) [a0, a1, undef, undef, undef, undef, undef] H) : Ev cp lo 36 [a0, a1] H R := ev_of_wp (cf := cf36) rfl rfl h
theorem st37 {lo : Nat} {H : Heap} {R : Value → Heap → Prop} {a0 a1 : Value} (h : wpS cp lo bd37 (bodyQ cf37 R) [a0, a1, undef, undef] H) : Ev cp lo 37 [a0, a1] H R := ev_of_wp (cf := cf37) rfl rfl h
theorem st38 {lo : Nat} {H : Heap} {R : Value → Heap → Prop} {a0 : Value} (h : wpS cp lo bd38 (bodyQ cf38 R) [a0, undef, undef] H) : Ev cp lo 38 [a0] H R := ev_of_wp (cf := cf38) rfl rfl h
theorem st39 {lo : Nat} {H : Heap} {R : Value → Heap → Prop} {a0 a1 : Value} (h : wpS cp lo bd39 (bodyQ cf39 R) [a0, a1, undef, undef, undef, undef, undef, undef, undef, undef, undef, undef] H) : Ev cp lo 39 [a0, a1] H R := ev_of_wp (cf := cf39) rfl rfl h
theorem st40 {lo : Nat} {H : Heap} {R : Value → Heap → Prop} {a0 a1 a2 a3 : Value} (h : wpS cp lo bd40 (bodyQ cf40 R) [a0, a1, a2, a3] H) : Ev cp lo 40 [a0, a1, a2, a3] H R := ev_of_wp (cf := cf40) rfl rfl h
theorem st41 {lo : Nat} {H : Heap} {R : Value → Heap → Prop} {a0 a1 a2 a3 : Value} (h : wpS cp lo bd41 (bodyQ cf41 R) [a0, a1, a2, a3, undef, undef] H) : Ev cp lo 41 [a0, a1, a2, a3] H R := ev_of_wp (cf := cf41) rfl rfl h
theorem st42 {lo : Nat} {H : Heap} {R : Value → Heap → Prop} {a0 a1 a2 : Value} (h : wpS cp lo bd42 (bodyQ cf42 R) [a0, a1, a2, undef] H) : Ev cp lo 42 [a0, a1, a2] H R := ev_of_wp (cf := cf42) rfl rfl h
theorem st43 {lo : Nat} {H : Heap} {R : Value → Heap → Prop} {a0 a1 a2 a3 : Value} (h : wpS cp lo bd43 (bodyQ cf43 R) [a0, a1, a2, a3] H) : Ev cp lo 43 [a0, a1, a2, a3] H R := ev_of_wp (cf := cf43) rfl rfl h
theorem st44 {lo : Nat} {H : Heap} {R : Value → Heap → Prop} {a0 a1 a2 : Value} (h : wpS cp lo bd44 (bodyQ cf44 R) [a0, a1, a2, undef, undef] H) : Ev cp lo 44 [a0, a1, a2] H R := ev_of_wp (cf := cf44) rfl rfl h
theorem st45 {lo : Nat} {H : Heap} {R : Value → Heap → Prop} {a0 a1 a2 : Value} (h : wpS cp lo bd45 (bodyQ cf45 R) [a0, a1, a2] H) : Ev cp lo 45 [a0, a1, a2] H R := ev_of_wp (cf := cf45) rfl rfl h
theorem st46 {lo : Nat} {H : Heap} {R : Value → Heap → Prop} {a0 a1 : Value} (h : wpS cp lo bd46 (bodyQ cf46 R) [a0, a1, undef, undef, undef, undef, undef] H) : Ev cp lo 46 [a0, a1] H R := ev_of_wp (cf := cf46) rfl rfl h
theorem st47 {lo : Nat} {H : Heap} {R : Value → Heap → Prop} {a0 a1 : Value} (h : wpS cp lo bd47 (bodyQ cf47 R) [a0, a1, undef, undef, undef, undef, undef, undef, undef, undef] H) : Ev cp lo 47 [a0, a1] H R := ev_of_wp (cf := cf47) rfl rfl h
theorem st48 {lo : Nat} {H : Heap} {R : Value → Heap → Prop} {a0 a1 a2 : Value} (h : wpS cp lo bd48 (bodyQ cf48 R) [a0, a1, a2, undef, undef, undef, undef, undef, undef, undef] H) : Ev cp lo 48 [a0, a1, a2] H R := ev_of_wp (cf := cf48) rfl rfl h
theorem st49 {lo : Nat} {H : Heap} {R : Value → Heap → Prop} {a0 a1 : Value} (h : wpS cp lo bd49 (bodyQ cf49 R) [a0, a1, undef, undef] H) : Ev cp lo 49 [a0, a1] H R := ev_of_wp (cf := cf49) rfl rfl h
theorem st50 {lo : Nat} {H : Heap} {R : Value → Heap → Prop} {a0 a1 : Value} (h : wpS cp lo bd50 (bodyQ cf50 R) [a0, a1, undef, undef, undef] H) : Ev cp lo 50 [a0, a1] H R := ev_of_wp (cf := cf50) rfl rfl h
theorem st51 {lo : Nat} {H : Heap} {R : Value → Heap → Prop} {a0 a1 : Value} (h : wpS cp lo bd51 (bodyQ cf51 R) [a0, a1, undef, undef, undef, undef, undef, undef, undef, undef, undef, undef] H) : Ev cp lo 51 [a0, a1] H R := ev_of_wp (cf := cf51) rfl rfl h
theorem st52 {lo : Nat} {H : Heap} {R : Value → Heap → Prop} {a0 a1 a2 a3 : Value} (h : wpS cp lo bd52 (bodyQ cf52 R) [a0, a1, a2, a3] H) : Ev cp lo 52 [a0, a1, a2, a3] H R := ev_of_wp (cf := cf52) rfl rfl h
end Go.Proofs.Ytobfjbominbkmaa
