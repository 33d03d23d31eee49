/- Lemmas. -/
import Derived.Test.YtmnlgdpdgjbfgaaGreatD8
import Derived.Test.YtmnlgdpdgjbfgaaGreatProg
import Derived.KernelRfl
set_option linter.all false
namespace Go.Proofs.YtmnlgdpdgjbfgaaGreat
open Go.Abs
def GB:ByteArray:=⟨#[0,1,2,2,3,3,3,3,4,4,4,4,4,4,4,4,5,5,5,5,5,5,5,5,5,5,5,5,5,5,5,5,6,6,6,6,6,6,6,6,6,6,6,6,6,6,6,6,6,6,6,6,6,6,6,6,6,6,6,6,6,6,6,6,7,7,7,7,7,7,7,7,7,7,7,7,7,7,7,7,7,7,7,7,7,7,7,7,7,7,7,7,7,7,7,7,7,7,7,7,7,7,7,7,7,7,7,7,7,7,7,7,7,7,7,7,7,7,7,7,7,7,7,7,7,7,7,7,8,8,8,8,8,8,8,8,8,8,8,8,8,8,8,8,8,8,8,8,8,8,8,8,8,8,8,8,8,8,8,8,8,8,8,8,8,8,8,8,8,8,8,8,8,8,8,8,8,8,8,8,8,8,8,8,8,8,8,8,8,8,8,8,8,8,8,8,8,8,8,8,8,8,8,8,8,8,8,8,8,8,8,8,8,8,8,8,8,8,8,8,8,8,8,8,8,8,8,8,8,8,8,8,8,8,8,8,8,8,8,8,8,8,8,8,8,8,8,8,8,8,8,8,8,8,8,8]⟩
def Qx:ByteArray:=⟨#[116,104,101,32,114,101,115,117,108,116,32,111,102,32,40,108,101,110,40,120,41,32,42,32,99,111,117,110,116,41,32,111,118,101,114,102,108,111,119,115]⟩
namespace K
def x(n:Nat):E:=.var n
def i(n:Int):E:=.cst (.int .i64 n)
def c(a b:E):E:=.cons a b
def c1(a:E):E:=.cons a .nil
def c2(a b:E):E:=.cons a (.cons b .nil)
def c3(a b c:E):E:=.cons a (.cons b (.cons c .nil))
def n1(o:LOp)(a:E):E:=.node o (.cons a .nil)
def n2(o:LOp)(a b:E):E:=.node o (.cons a (.cons b .nil))
def b(o:BinOp)(a b:E):E:=.node (.bin o) (.cons a (.cons b .nil))
def ld(a:E):E:=.node (.ld 1 false) (.cons a .nil)
def fa(n:Nat)(a:E):E:=.node (.fAddr n) (.cons a .nil)
def ix(n:Nat)(a:E):E:=.node (.ext n) (.cons a .nil)
def p(a b c:E):E:=.pick a b c
def h(d:Nat)(o:HOp)(a:E):Stm:=.hv [] [] [] (some d) o a
def cl(d f:Nat)(a:E):Stm:=.hv [] [] [] (some d) (.call false) (.cons (.cst (.func (.func f) #[] #[])) a)
def s(l:List (Nat×E)):Stm:=.sets l []
def q(a b:Stm):Stm:=.seq a b
def e:Stm:=.skip
def r:Stm:=.ret
def z:Value:=.int .i64 0
def u:Value:=.slice none 0 0
def f:E:=.cst (.bool false)
def t:E:=.cst (.bool true)
def hh(l:List (Nat×E))(d:Nat)(o:HOp)(a:E):Stm:=.hv l [] [] (some d) o a
def ia(n:Nat)(a b:E):E:=.node (.iAddr n) (.cons a (.cons b .nil))
def ln(a:E):E:=.node .len (.cons a .nil)
def bk(i:Nat)(a:Stm):Stm:=.block i a
def lt(n:Nat)(a:E):E:=.node (.ld n true) (.cons a .nil)
def xt(i:Nat):Stm:=.exit i
def lo(a:Stm):Stm:=.loop a
def ad(a b:E):E:=.node (.bin .add) (.cons a (.cons b .nil))
instance (n:Nat):OfNat E n:=⟨.var n⟩
instance:HPow Stm Stm Stm:=⟨.seq⟩
theorem xv(n:Nat):(OfNat.ofNat n:E)=.var (@OfNat.ofNat Nat n (instOfNatNat n)):=rfl
theorem xq(a b:Stm):a^b=.seq a b:=rfl
def qs(l:List (Nat×E))(a:Stm):Stm:=.seq (.sets l []) a
def lf(n:Nat)(a:E):E:=.node (.ld 1 false) (.cons (.node (.fAddr n) (.cons a .nil)) .nil)
def k(c:E)(a b:Stm):Stm:=.cond c a b
def kq(c:E)(a:Stm):Stm:=.cond c a .skip
def fn(n:Nat):E:=.cst (.func (.func n) #[] #[])
def nk(n:Nat):E:=.node .nilChk (.cons (.var n) .nil)
def w(n:Nat)(a b:E):Stm:=.hv [] [] [] none (.st n) (.cons a (.cons b .nil))
def v(o:HOp)(a:E):Stm:=.hv [] [] [] none o a
end K
def kB:=zzi @K.x.eq_1 (zzi @K.i.eq_1 (zzi @K.c.eq_1 (zzi @K.c1.eq_1 (zzi @K.c2.eq_1 (zzi @K.c3.eq_1 (zzi @K.n1.eq_1 (zzi @K.n2.eq_1 (zzi @K.b.eq_1 (zzi @K.ld.eq_1 (zzi @K.fa.eq_1 (zzi @K.ix.eq_1 (zzi @K.p.eq_1 (zzi @K.h.eq_1 (zzi @K.cl.eq_1 (zzi @K.s.eq_1 (zzi @K.q.eq_1 (zzi @K.e.eq_1 (zzi @K.r.eq_1 (zzi @K.z.eq_1 (zzi @K.u.eq_1 (zzi @K.f.eq_1 (zzi @K.t.eq_1 (zzi @K.qs.eq_1 (zzi @K.lf.eq_1 (zzi @K.k.eq_1 (zzi @K.kq.eq_1 (zzi @K.fn.eq_1 (zzi @K.nk.eq_1 (zzi @K.w.eq_1 (zzi @K.v.eq_1 (zzi @K.hh.eq_1 (zzi @K.ia.eq_1 (zzi @K.ln.eq_1 (zzi @K.bk.eq_1 (zzi @K.lt.eq_1 (zzi @K.xt.eq_1 (zzi @K.lo.eq_1 (zzi @K.ad.eq_1 (zzi @frm.eq_1 (zzi @frm.eq_2 (zzi @frz.eq_1 (zzi @frz.eq_2 (zzi @K.xv @K.xq)))))))))))))))))))))))))))))))))))))))))))
section
open K
def bd6:Stm:=
 (h 1 .box (c1 0)^s [(2,f)])^kq (p (p (b .gtr (lf 0 1) (i 60)) t (b .gtr (lf 1 1) (i 40))) t (b .gtr (ln (lf 2 1)) (i 2400))) ((cl 9 12 .nil^s [(2,9)])^r)^(cl
 10 21 (c1 (lt 3 1))^s [(5,ix 2 10),(4,ix 1 10),(3,ix 0 10)])^(cl 11 22 (c1 (lt 3 1))^s [(8,ix 2 11),(7,ix 1 11),(6,ix 0 11)])^(Stm.hv [(12,p (p (b
 .eql 5 8) (b .eql 4 7) f) (b .eql (n1 .b2s 3) (n1 .b2s 6)) f)] [] [(p (p (b .eql 5 8) (b .eql 4 7) f) (b .eql (n1 .b2s 3) (n1 .b2s 6)) f,true)] (some 13)
 (.call false) (c1 (fn 12))^s [(2,p 12 13 f)])^r
def cf6:CF:=⟨1,14,[(.var 2)],bd6,.plain⟩
def Pc:List Nat:=[0,1,2,3,4,5,6,7,8,9,10,11,12,13,14,16,18,23,24,25,26,36,41,42,43,44,45,48,53,54,55,62,63,64,65]
def Pd:List Nat:=[0,1,3,4,5,6,7,8,9,10,11,12,13,14,19,25,26,27,36,38,39,43,48,49,55,56,57]
def Pe:List Nat:=[0,1,4,5]
def Mn:Stm:=
 (h 2 .box (c1 1)^s [(5,i 0),(4,i 0),(3,.cst u)])^Stm.scope (((cl 17 27 (c3 0 (lt 7 2) (ad (lf 4 2) (lf 5 2)))^s [(6,17)])^kq (b .neq 6 (i 0)) (s [(5,6),
 (4,i 0),(3,.cst u)]^r))^(cl 18 28 (c1 (lt 7 2))^hh [(20,ix 1 18),(19,ix 0 18)] 7 (.alloc [z,z,z,z,z]) .nil^w 5 7 19^s [(8,20)])^kq (b .neq 8 (i 0))
 (s [(5,8),(4,i 0),(3,.cst u)]^r)^(h 21 (.mkSl [z]) (c2 (lf 4 2) (lf 4 2))^s [(9,21)])^s [(10,i 0)]^e^(s [(23,i 0),(22,lf 6 2)]^bk 0 (lo (k (b .lss
 23 22) e (xt 0)^bk 1 (s [(11,23)]^(hh [(24,lt 5 7)] 25 (.call true) (c (fn 30) (c3 0 (lf 6 2) 11))^h 26 .callC (c (fn 36) (c3 24 25 (.cst u)))^hh [(28,ix 1
 26),(27,ix 0 26)] 12 (.alloc [u,u]) .nil^w 2 12 27^s [(13,28)])^kq (b .neq 13 (i 0)) (s [(5,i 17),(4,i 0),(3,.cst u)]^r)^s [(10,ad 10 (ln (lf 1
 12)))]^s [(31,i 0),(30,ln (lf 0 12)),(29,lf 0 12)]^bk 2 (lo (k (b .lss 31 30) e (xt 2)^bk 3 (s [(15,ld (ia 1 29 31)),(14,31)]^s [(16,ad 11 (b .mul 14
 (lf 6 2)))]^kq (b .geq 16 (lf 4 2)) (xt 1)^w 1 (ia 1 9 16) 15)^s [(31,ad 31 (i 1))])))^s [(23,ad 23 (i 1))])))^s [(5,i 0),(4,10),(3,9)]^r) (.alt 0
 (e^(s [(23,i 0),(22,lf 6 2)]^bk 0 (lo (k (b .lss 23 22) e (xt 0)^bk 1 (s [(11,23)]^(hh [(24,lt 5 7)] 25 (.call true) (c (fn 30) (c3 0 (lf 6 2) 11))^h 26
 .callC (c (fn 36) (c3 24 25 (.cst u)))^hh [(28,ix 1 26),(27,ix 0 26)] 12 (.alloc [u,u]) .nil^w 2 12 27^s [(13,28)])^kq (b .neq 13 (i 0)) (s [(5,i 17),
 (4,i 0),(3,.cst u)]^r)^s [(10,ad 10 (ln (lf 1 12)))]^s [(31,i 0),(30,ln (lf 0 12)),(29,lf 0 12)]^bk 2 (lo (k (b .lss 31 30) e (xt 2)^bk 3 (s [(15,ld
 (ia 1 29 31)),(14,31)]^s [(16,ad 11 (b .mul 14 (lf 6 2)))]^kq (b .geq 16 (lf 4 2)) (xt 1)^w 1 (ia 1 9 16) 15)^s [(31,ad 31 (i 1))])))^s [(23,ad 23 (i
 1))])))^s [(5,i 0),(4,10),(3,9)]^r) (kq .nil e))
def Mo:Stm:=
 (h 2 .box (c1 1)^s [(5,i 0),(4,i 0),(3,.cst u)])^(cl 12 31 (c1 (lt 7 2))^kq (n1 (.un .not) 12) (s [(5,i 14),(4,i 0),(3,.cst u)]^r))^kq (b .neq (ln 0)
 (ad (lf 4 2) (lf 5 2))) (s [(5,i 7),(4,i 0),(3,.cst u)]^r)^(cl 13 32 (c1 0)^kq (n1 (.un .not) 13) (s [(5,i 3),(4,i 0),(3,.cst u)]^r))^s [(6,.cst
 u)]^(h 14 (.app 1 [z]) (c2 6 (n2 (.sl 1 false true false) 0 (lf 4 2)))^s [(6,14)])^s [(7,i 0)]^(s [(8,i 0)]^bk 0 (lo (k (b .lss 8 (lf 6 2)) e (xt 0)^bk 1
 ((hh [(18,lf 6 2),(17,8),(16,0)] 15 (.call true) (c2 (fn 34) (lt 7 2))^h 19 .callC (c (fn 35) (c3 16 17 18))^h 20 .callC (c (fn 37) (c3 15 19 (.cst
 u)))^hh [(22,ix 1 20),(21,ix 0 20)] 9 (.alloc [u,u]) .nil^w 2 9 21^s [(10,22)])^kq (b .neq 10 (i 0)) (s [(5,i 17),(4,i 0),(3,.cst u)]^r)^s [(7,ad 7
 (ln (lf 1 9)))]^s [(11,i 0)]^bk 2 (lo (k (b .lss (ad 8 (b .mul 11 (lf 6 2))) (lf 4 2)) e (xt 2)^bk 3 (w 1 (ia 1 6 (ad 8 (b .mul 11 (lf 6 2)))) (ld (ia 1 (lf
 0 9) 11)))^s [(11,ad 11 (i 1))])))^s [(8,ad 8 (i 1))])))^s [(5,i 0),(4,7),(3,6)]^r
def Pf:List Nat:=[0,1,4,5,6,7,8,9,10,13,19,25,26,27,31,36,42,46,52,55,57]
def Mp:Stm:=
 (h 1 .box (c1 0)^s [(4,i 0),(3,i 0),(2,.cst u)])^(cl 11 45 (c1 (lt 3 1))^hh [(14,ix 2 11),(13,ix 1 11),(12,ix 0 11)] 6 (.alloc [z,z,z,z,z,z,z])
 .nil^Stm.hv [(5,12)] [] [] none (.st 7) (c2 6 13)^s [(7,14)])^kq (b .neq 7 (i 0)) (s [(4,7),(3,i 0),(2,.cst u)]^r)^(cl 15 16 (c2 5 (lt 7 6))^s [(7,ix
 2 15),(9,ix 1 15),(8,ix 0 15)])^kq (b .neq 7 (i 0)) (s [(4,7),(3,i 0),(2,.cst u)]^r)^(cl 16 46 (c1 8)^s [(7,ix 1 16),(10,ix 0 16)])^kq (b .neq 7
 (i 0)) (s [(4,7),(3,i 0),(2,.cst u)]^r)^s [(4,i 0),(3,9),(2,10)]^r
def QX:CF:=⟨1,17,[(.var 2),(.var 3),(.var 4)],Mp,.plain⟩
def Mq:Stm:=
 (h 1 .box (c1 0)^s [(4,i 0),(3,i 0),(2,.cst u)])^(cl 13 47 (c1 (lt 3 1))^hh [(16,ix 2 13),(15,ix 1 13),(14,ix 0 13)] 6 (.alloc [z,z,z,z,z,z,z])
 .nil^Stm.hv [(5,14)] [] [] none (.st 7) (c2 6 15)^s [(7,16)])^kq (b .neq 7 (i 0)) (s [(4,7),(3,i 0),(2,.cst u)]^r)^(cl 17 17 (c2 5 (lt 7 6))^s [(10,ix
 2 17),(9,ix 1 17),(8,ix 0 17)])^kq (b .neq 10 (i 0)) (s [(4,10),(3,i 0),(2,.cst u)]^r)^(cl 18 48 (c1 8)^s [(12,ix 1 18),(11,ix 0 18)])^kq (b .neq
 12 (i 0)) (s [(4,12),(3,i 0),(2,.cst u)]^r)^s [(4,i 0),(3,9),(2,11)]^r
def Pg:List Nat:=[0,1,2,3,34,41,46,47,48]
def Mr:Stm:=
 (h 3 .box (c1 1)^s [(4,i 0)])^(hh [(7,lt 7 3)] 6 (.call true) (c1 (fn 55))^h 8 .callC (c3 (fn 54) 6 7)^kq (n1 (.un .not) 8) (s [(4,i 14)]^r))^kq (b .neq (ln
 0) 2) (s [(4,i 7)]^r)^(s [(11,i 0),(10,ln 0),(9,0)]^bk 0 (lo (k (b .lss 11 10) e (xt 0)^bk 1 (s [(5,ld (ia 1 9 11))]^kq (p (b .lss 5 (i 0)) t (b .gtr 5
 (i 255))) (s [(4,i 3)]^r))^s [(11,ad 11 (i 1))])))^s [(4,i 0)]^r
def Ms:Stm:=
 (h 1 .box (c1 0)^h 2 (.alloc [z,z,z,z,z]) .nil^s [(3,i 0)])^(cl 6 56 (c2 (i 8) (i 301))^hh [(8,ix 1 6),(7,ix 0 6)] 4 (.alloc [z,z,z]) .nil^w 3 4 7^s
 [(5,8)])^kq (b .neq 5 (i 0)) ((Stm.hv [(9,5)] [] [] none (.st 5) (c2 2 (.node (.build [z,z,z,z,z] []) .nil))^s [(3,9)])^r)^(h 10 .callC (c (fn 57) (c3
 (lt 3 4) (b .quo (lf 5 1) (lf 6 1)) (i 1)))^Stm.hv [(11,ix 1 10)] [] [] none (.st 5) (c2 2 (ix 0 10))^s [(3,11)])^r
def Ph:List Nat:=[0,1,2,4,5,6,7,8,9,10,11,13,14,15,16,19,24,31,36,48,49,50,51,66,68,69,70,78,82,83,84,90,94,98,100]
def Mt:Stm:=
 s [(3,.cst u)]^s [(4,.cst u)]^(s [(5,2)]^bk 0 (lo (k (b .lss 5 (ln 0)) e (xt 0)^bk 1 (hh [(6,4)] 7 (.bSl [z] 1 [0]) (c1 (ld (ia 1 0 5)))^h 8 (.app 1 [z])
 (c2 6 7)^s [(4,8)])^s [(5,ad 5 1)])))^s [(3,4)]^r
def Mu:Stm:=
 (h 1 .box (c1 0)^s [(2,f)])^(cl 5 26 .nil^s [(3,5)])^(s [(4,i 0)]^bk 0 (lo (k (b .lss 4 (ln 3)) e (xt 0)^bk 1 (kq (n2 (.eqA false [1,1,1,1,1,1,1]) (lt
 7 (ia 7 3 4)) (lt 7 1)) (s [(2,t)]^r))^s [(4,ad 4 (i 1))])))^s [(2,f)]^r
def Mw:Stm:=
 s [(1,f)]^(s [(2,i 0)]^bk 0 (lo (k (b .lss 2 (ln 0)) e (xt 0)^bk 1 (kq (p (b .lss (ld (ia 1 0 2)) (i 0)) t (b .gtr (ld (ia 1 0 2)) (i 255))) (s [(1,f)]^r))^s
 [(2,ad 2 (i 1))])))^s [(1,t)]^r
def Mx:Stm:=
 (h 1 .box (c1 0)^h 2 (.alloc [z,z,z,z,z]) .nil)^(cl 4 70 (c3 (.node (.build [z,z,z] [(0,1),(1,1),(2,1)]) (c3 (i 2) (i 256) (i 301))) (b .quo (lf 5 1)
 (lf 6 1)) (i 1))^hh [(6,ix 1 4),(5,ix 0 4)] 3 (.alloc [z,z,z,z,z]) .nil^w 5 3 5^Stm.sets [] [6])^w 5 2 (lt 5 3)^r
def My:Stm:=
 s [(3,.cst u)]^s [(4,.cst u)]^(s [(5,1)]^bk 0 (lo (k (b .lss 5 (ln 0)) e (xt 0)^bk 1 (hh [(6,4)] 7 (.bSl [z] 1 [0]) (c1 (ld (ia 1 0 5)))^h 8 (.app 1 [z])
 (c2 6 7)^s [(4,8)])^s [(5,ad 5 2)])))^s [(3,4)]^r
def Mz:Stm:=
 (h 3 .box (c1 0)^h 4 (.alloc [u,u]) .nil^s [(5,i 0)])^(cl 11 58 (c2 (lt 5 3) 1)^kq (n1 (.un .not) 11) ((w 2 4 (.node (.build [u,u] []) .nil)^s [(5,i
 1)])^r))^(s [(14,i 0),(13,ln 2),(12,2)]^bk 0 (lo (k (b .lss 14 13) e (xt 0)^bk 1 (s [(6,ld (ia 1 12 14))]^kq (p (b .lss 6 (i 0)) t (b .geq 6 (ln 1)))
 ((w 2 4 (.node (.build [u,u] []) .nil)^s [(5,i 1)])^r))^s [(14,ad 14 (i 1))])))^(cl 15 59 (c2 (lt 5 3) (ln 1))^kq (n1 (.un .not) 15) ((w 2 4 (.node (.build
 [u,u] []) .nil)^s [(5,i 7)])^r))^(hh [(20,ln 1),(18,1),(17,lt 5 3)] 16 (.call true) (c2 (fn 71) (lt 3 (fa 0 3)))^h 19 (.app 1 [z]) (c2 (.cst u) 18)^h
 21 (.mkSl [.bool false]) (c2 20 20)^h 22 .box (c1 (.node (.build [z,z,u,u,z,z,z,z,z,u,u,z,u,u,u,u] [(0,4),(4,5),(9,1),(10,1)]) (c 16 (c3
 17 19 21))))^s [(7,22)]^Stm.dist (.cst u) 3)^(s [(25,i 0),(24,ln 2),(23,2)]^bk 2 (lo (k (b .lss 25 24) e (xt 2)^bk 3 (s [(8,ld (ia 1 23 25))]^kq (n1
 (.un .not) (ld (ia 1 (lf 10 (nk 7)) 8))) (w 1 (ia 1 (lf 10 (nk 7)) 8) t^w 1 (fa 11 (nk 7)) (ad (lf 11 (nk 7)) (i 1))))^s [(25,ad 25 (i 1))])))^(cl 26 72 (c1
 7)^kq (n1 (.un .not) 26) ((w 2 4 (.node (.build [u,u] []) .nil)^s [(5,i 17)])^r))^s [(9,.cst u)]^(s [(28,i 0),(27,ln 1)]^bk 4 (lo (k (b .lss 28 27) e
 (xt 4)^bk 5 (s [(10,28)]^kq (b .neq (ld (ia 1 (lf 9 (nk 7)) 10)) (ld (ia 1 1 10))) (hh [(29,9)] 30 (.bSl [z] 1 [0]) (c1 10)^h 31 (.app 1 [z]) (c2 29 30)^s
 [(9,31)]))^s [(28,ad 28 (i 1))])))^(w 2 4 (n2 (.build [u,u] [(0,1),(1,1)]) (lf 9 (nk 7)) 9)^s [(5,i 0)])^r
def NA:Stm:=
 (h 3 .box (c1 0)^h 4 (.alloc [u,u]) .nil^s [(5,i 0)])^(cl 9 64 (c1 (lt 5 3))^Stm.hv [(10,n1 (.un .not) 9)] [] [(n1 (.un .not) 9,false)] (some 11) (.call
 false) (c3 (fn 65) (lt 3 (fa 0 3)) 1)^kq (p 10 t (n1 (.un .not) 11)) ((w 2 4 (.node (.build [u,u] []) .nil)^s [(5,i 1)])^r))^(s [(6,i 0)]^bk 0 (lo (k (b
 .lss 6 (ln 2)) e (xt 0)^bk 1 (kq (p (b .lss (ld (ia 1 2 6)) (i 0)) t (b .geq (ld (ia 1 2 6)) (ln 1))) ((w 2 4 (.node (.build [u,u] []) .nil)^s [(5,i
 1)])^r))^s [(6,ad 6 (i 1))])))^kq (p (b .leq (ln 1) (lf 3 3)) t (b .gtr (ln 1) (b .sub (lf 1 (fa 0 3)) (i 1)))) ((w 2 4 (.node (.build [u,u] []) .nil)^s
 [(5,i 7)])^r)^(cl 12 73 (c2 (ln 1) 2)^s [(8,ix 1 12),(7,ix 0 12)])^kq (b .gtr 8 (lf 3 3)) ((w 2 4 (.node (.build [u,u] []) .nil)^s [(5,i 17)])^r)^(cl 13
 74 (c (lt 5 3) (c3 1 7 8))^Stm.hv [(14,ix 1 13)] [] [] none (.st 2) (c2 4 (ix 0 13))^s [(5,14)])^r
def Pj:List Nat:=[0,2,3,8,9]
def Pk:List Nat:=[0,1,4,5,6,8,15,16,17,20]
def Pl:List Nat:=[0,1,4,5,7,8,9,10,11,12,30]
def Pm:List Nat:=[0,1,3,4,5,7,8,9,10,11,12,13,14,15,16,17,29,30,31,45,50,52,54,60,61,64,65,77,109,110,115]
def NB:Stm:=
 (h 1 .box (c1 0)^hh [(2,.cst u)] 3 (.alloc [z,z,z,z,z,z,z]) .nil^s [(4,i 0)])^(cl 14 86 (c1 (lt 3 1))^kq (n1 (.un .not) 14) ((Stm.hv [(2,.cst u)] [] []
 none (.st 7) (c2 3 (.node (.build [z,z,z,z,z,z,z] []) .nil))^s [(4,i 1)])^r))^(cl 15 55 .nil^s [(5,15)])^(cl 16 87 (c2 5 (n1 (.mkF 88 0) 1))^s [(6,
 16)])^kq (b .lss 6 (i 0)) ((Stm.hv [(2,.cst u)] [] [] none (.st 7) (c2 3 (.node (.build [z,z,z,z,z,z,z] []) .nil))^s [(4,i 23)])^r)^(hh [(17,lt 7 (ia
 7 5 6))] 7 (.alloc [z,z,z,z,z,z,z]) .nil^w 7 7 17)^(cl 18 77 (c1 (lt 7 7))^cl 19 78 (c2 (ix 0 18) (ix 1 18))^s [(8,19)])^(h 20 (.mkSl [z]) (c2 (ad (lf
 4 7) (lf 5 7)) (ad (lf 4 7) (lf 5 7)))^s [(9,20)])^(s [(23,i 0),(22,ln (lf 2 1)),(21,lf 2 1)]^bk 0 (lo (k (b .lss 23 22) e (xt 0)^bk 1 (s [(11,ld (ia 1
 21 23)),(10,23)]^(h 24 .callC (c (fn 79) (c3 (lt 7 7) (b .quo 10 (lf 0 1)) (b .rem 10 (lf 0 1))))^h 12 (.alloc [.bool false,.bool false,z]) .nil^w 3 12
 24)^kq (lf 0 12) (kq (n2 (.eqB true) 11 (lf 1 12)) ((Stm.hv [(2,.cst u)] [] [] none (.st 7) (c2 3 (.node (.build [z,z,z,z,z,z,z] []) .nil))^s [(4,i
 18)])^r)^xt 1)^s [(13,ld (ia 1 8 (lf 2 12)))]^kq (p (b .geq 13 (i 0)) 11 f) (w 1 (ia 1 9 (b .quo 13 (i 8))) (b .or (ld (ia 1 9 (b .quo 13 (i 8)))) (b .shl (i
 1) (b .sub (i 7) (b .rem 13 (i 8)))))))^s [(23,ad 23 (i 1))])))^(Stm.hv [(2,9)] [] [] none (.st 7) (c2 3 (lt 7 7))^s [(4,i 0)])^r
def QY:CF:=⟨1,25,[(.var 2),(.node (.ld 7 true) (.cons (.var 3) .nil)),(.var 4)],NB,.plain⟩
def NC:Stm:=
 s [(2,i 0),(1,.cst u)]^(s [(9,i 0),(8,ln 0),(7,0)]^bk 0 (lo (k (b .lss 9 8) e (xt 0)^bk 1 (s [(3,ld (ia 1 7 9))]^kq (p (b .lss 3 (i 0)) t (b .gtr 3 (i
 255))) (s [(2,i 3),(1,.cst u)]^r))^s [(9,ad 9 (i 1))])))^kq (b .gtr (ln 0) (i 8192)) (s [(2,i 4),(1,.cst u)]^r)^(h 10 .box (c1 (n1 (.build [u,z,u]
 [(0,1)]) 0))^s [(4,10)])^bk 2 (lo (k (b .lss (lf 1 (nk 4)) (ln 0)) e (xt 2)^bk 3 (s [(5,ld (ia 1 0 (lf 1 (nk 4))))]^w 1 (fa 1 (nk 4)) (ad (lf 1 (nk 4)) (i
 1))^kq (b .eql 5 (i 129)) (xt 2)^(cl 11 89 (c2 4 5)^s [(6,11)])^kq (b .neq 6 (i 0)) (s [(2,6),(1,.cst u)]^r))))^s [(2,i 0),(1,lf 2 (nk 4))]^r
def ND:Stm:=
 (h 1 .box (c1 0)^hh [(2,.cst u)] 3 (.alloc [z,z,z,z,z,z,z]) .nil^s [(4,i 0)])^(cl 18 90 (c1 (lt 3 1))^kq (n1 (.un .not) 18) ((Stm.hv [(2,.cst u)] [] []
 none (.st 7) (c2 3 (.node (.build [z,z,z,z,z,z,z] []) .nil))^s [(4,i 1)])^r))^(hh [(19,.node (.build [z,z,z,z,z,z,z] []) .nil)] 5 (.alloc [z,z,
 z,z,z,z,z]) .nil^w 7 5 19)^(cl 20 26 .nil^s [(6,20)])^(s [(7,i 0)]^bk 0 (lo (k (b .lss 7 (ln 6)) e (xt 0)^bk 1 (kq (p (b .eql (lf 0 (ia 7 6 7)) (lf 1
 1)) (b .eql (lf 1 (ia 7 6 7)) (lf 0 1)) f) (w 7 5 (lt 7 (ia 7 6 7))))^s [(7,ad 7 (i 1))])))^kq (b .eql (lf 0 5) (i 0)) ((Stm.hv [(2,.cst u)] [] [] none (.st
 7) (c2 3 (.node (.build [z,z,z,z,z,z,z] []) .nil))^s [(4,i 23)])^r)^(cl 21 82 (c1 (lt 7 5))^s [(9,ix 1 21),(8,ix 0 21)])^(cl 22 83 (c2 8 9)^s [(10,
 22)])^(h 23 (.mkSl [z]) (c2 (ad (lf 4 5) (lf 5 5)) (ad (lf 4 5) (lf 5 5)))^s [(11,23)])^(s [(12,i 0)]^bk 2 (lo (k (b .lss 12 (ln (lf 2 1))) e (xt 2)^bk 3 (s
 [(13,b .rem 12 (lf 0 1))]^s [(14,b .quo 12 (lf 0 1))]^(cl 24 84 (c3 (lt 7 5) 13 14)^s [(16,ix 1 24),(15,ix 0 24)])^kq (p 15 (n2 (.eqB true) 16 (ld (ia 1
 (lf 2 1) 12))) f) ((Stm.hv [(2,.cst u)] [] [] none (.st 7) (c2 3 (.node (.build [z,z,z,z,z,z,z] []) .nil))^s [(4,i 18)])^r)^kq (p (n1 (.un .not) 15)
 (ld (ia 1 (lf 2 1) 12)) f) ((hh [(25,10)] 26 (.call false) (c (fn 85) (c3 (lt 7 5) 13 14))^s [(17,ld (ia 1 25 26))])^kq (b .geq 17 (i 0)) (w 1 (ia 1 11 (b
 .quo 17 (i 8))) (ad (ld (ia 1 11 (b .quo 17 (i 8)))) (b .shl (i 1) (n1 (.cvt .u64) (b .sub (i 7) (b .rem 17 (i 8)))))))))^s [(12,ad 12 (i 1))])))^(Stm.hv
 [(2,11)] [] [] none (.st 7) (c2 3 (lt 7 5))^s [(4,i 0)])^r
def NG:Stm:=
 s [(2,i 0),(1,.cst u)]^(cl 5 81 (c1 0)^kq (n1 (.un .not) 5) (s [(2,i 3),(1,.cst u)]^r))^kq (b .gtr (ln 0) (i 8192)) (s [(2,i 4),(1,.cst u)]^r)^(hh [(6,
 .node (.build [z,z,z,.bool false,u,.bool false] []) .nil)] 3 (.alloc [z,z,z,.bool false,u,.bool false]) .nil^w 6 3 6)^s [(4,i 0)]^bk 0 (lo (k (p (p
 (b .lss (lf 0 3) (ln 0)) (n1 (.un .not) (lf 5 3)) f) (b .eql 4 (i 0)) f) e (xt 0)^bk 1 (s [(7,lf 1 3)]^bk 2 (k (b .eql 7 (i 0)) (cl 10 91 (c2 0 (lt 6
 3))^Stm.hv [(11,ix 1 10)] [] [] none (.st 6) (c2 3 (ix 0 10))^s [(4,11)]) (k (b .eql 7 (i 4)) (cl 12 92 (c2 0 (lt 6 3))^Stm.hv [(13,ix 1 12)] [] [] none
 (.st 6) (c2 3 (ix 0 12))^s [(4,13)]) (cl 8 93 (c2 0 (lt 6 3))^Stm.hv [(9,ix 1 8)] [] [] none (.st 6) (c2 3 (ix 0 8))^s [(4,9)]))))))^kq (b .neq 4 (i 0)) (s
 [(2,4),(1,.cst u)]^r)^kq (b .neq (lf 1 3) (i 0)) (s [(2,i 10),(1,.cst u)]^r)^s [(2,i 0),(1,lf 4 3)]^r
def Pn:List Nat:=[0,1,2]
def NH:Stm:=
 (h 2 .box (c1 1)^s [(3,f)])^(cl 4 99 (c2 0 (lt 7 2))^s [(3,b .geq 4 (i 0))])^r
def Po:List Nat:=[0,1,2,3,4,35,36,37,38,40,41]
def NI:Stm:=
 (h 2 (.alloc [z,z,z]) .nil^s [(3,i 0)])^kq (p (b .lss 0 (i 1)) t (b .gtr 0 (i 12))) ((w 3 2 (.node (.build [z,z,z] []) .nil)^s [(3,i 3)])^r)^(hh [(5,
 .node (.build [z,z,z] [(0,1),(1,1),(2,1)]) (c3 (i 2) (b .shl (i 1) 0) 1))] 4 (.alloc [z,z,z]) .nil^w 3 4 5)^(cl 6 100 (c1 (lt 3 4))^kq (n1 (.un .not)
 6) ((w 3 2 (.node (.build [z,z,z] []) .nil)^s [(3,i 38)])^r))^(w 3 2 (lt 3 4)^s [(3,i 0)])^r
def NJ:Stm:=
 (h 3 .box (c1 0)^h 4 (.alloc [z,z,z,z,z]) .nil^s [(5,i 0)])^(cl 6 100 (c1 (lt 3 3))^kq (n1 (.un .not) 6) ((w 5 4 (.node (.build [z,z,z,z,z] []) .nil)^s
 [(5,i 1)])^r))^(cl 7 101 (c3 (lt 3 3) 1 2)^kq (n1 (.un .not) 7) ((w 5 4 (.node (.build [z,z,z,z,z] []) .nil)^s [(5,i 3)])^r))^(w 5 4 (.node (.build [z,
 z,z,z,z] [(0,3),(3,1),(4,1)]) (c3 (lt 3 3) 1 2))^s [(5,i 0)])^r
def NK:Stm:=
 (h 2 .box (c1 0)^s [(3,f)])^(cl 4 100 (c1 (lt 3 (fa 0 2)))^Stm.hv [(5,4)] [] [(4,true)] (some 6) (.call false) (c (fn 101) (c3 (lt 3 (fa 0 2)) (lf 3 2) (lf 4
 2)))^Stm.hv [(7,p 5 6 f)] [] [(p 5 6 f,true)] (some 8) (.call false) (c3 (fn 102) (lt 3 (fa 0 2)) 1)^s [(3,p 7 8 f)])^r
def NL:Stm:=
 (h 2 .box (c1 0)^s [(3,f)])^s [(3,p (b .gtr 1 (lf 3 2)) (b .lss 1 (lf 1 (fa 0 2))) f)]^r
def Pp:List Nat:=[0,1,2,3,4,5,6,8,12,15,17,18,21,22,28,34]
def Pq:List Nat:=[0,1,2,3,6,7,8,9,12,13,20,23]
def Ps:List Nat:=[0,2,3,21]
def Pt:List Nat:=[0,1,2,3,6,7,8,11,12]
def NM:Stm:=
 (h 1 .box (c1 0)^s [(2,f)])^s [(3,lf 1 (fa 0 1))]^(cl 4 109 (c1 (lt 3 (fa 0 1)))^s [(2,p (p (p (p 4 (b .geq (lf 3 1) (i 1)) f) (b .leq (lf 3 1) (b .sub 3 (i
 2))) f) (b .geq (lf 4 1) (i 0)) f) (b .leq (lf 4 1) (b .sub 3 (i 2))) f)])^r
def NN:Stm:=
 (h 2 .box (c1 0)^s [(3,f)])^(s [(4,i 0)]^bk 0 (lo (k (b .lss 4 (ln 1)) e (xt 0)^bk 1 (h 5 .callC (c3 (fn 110) (lt 3 2) (ld (ia 1 1 4)))^kq (n1 (.un .not) 5)
 (s [(3,f)]^r))^s [(4,ad 4 (i 1))])))^s [(3,t)]^r
def NO:Stm:=
 (h 3 .box (c1 0)^s [(4,i 0)])^kq (b .eql (lf 0 3) (i 2)) (s [(4,b .xor 1 2)]^r)^s [(4,b .rem (ad 1 2) (lf 1 3))]^r
def NP:Stm:=
 (h 3 .box (c1 0)^s [(4,i 0)])^kq (b .eql (lf 0 3) (i 2)) (s [(4,b .xor 1 2)]^r)^s [(4,b .rem (b .sub (ad 1 (lf 1 3)) 2) (lf 1 3))]^r
def NQ:Stm:=
 (h 3 .box (c1 0)^s [(4,i 0)])^kq (b .neq (lf 0 3) (i 2)) (s [(4,b .rem (b .mul 1 2) (lf 1 3))]^r)^s [(5,i 0)]^(s [(6,i 0)]^bk 0 (lo (k (b .gtr (b .shr 2 (n1
 (.cvt .u64) 6)) (i 0)) e (xt 0)^bk 1 (kq (b .eql (b .and (b .shr 2 (n1 (.cvt .u64) 6)) (i 1)) (i 1)) (s [(5,b .xor 5 (b .shl 1 (n1 (.cvt .u64) 6)))]))^s [(6,
 ad 6 (i 1))])))^(cl 7 113 (c2 5 (lf 2 3))^s [(4,7)])^r
def NR:Stm:=
 (h 3 .box (c1 0)^h 4 (.alloc [z,z,z,z,z]) .nil^s [(5,i 0)])^(cl 7 109 (c1 (lt 3 3))^kq (n1 (.un .not) 7) ((w 5 4 (.node (.build [z,z,z,z,z] []) .nil)^s
 [(5,i 1)])^r))^(hh [(8,.node (.build [z,z,z,z,z] [(0,3),(3,1),(4,1)]) (c3 (lt 3 3) 1 2))] 6 (.alloc [z,z,z,z,z]) .nil^w 5 6 8)^(cl 9 64 (c1 (lt
 5 6))^kq (n1 (.un .not) 9) ((w 5 4 (.node (.build [z,z,z,z,z] []) .nil)^s [(5,i 3)])^r))^(w 5 4 (lt 5 6)^s [(5,i 0)])^r
def NS:Stm:=
 (h 1 .box (c1 0)^h 2 (.alloc [z,z,u,u]) .nil)^(cl 7 114 (c1 (lt 3 1))^Stm.sets [(3,ix 0 7)] [ix 1 7])^(hh [(11,lf 1 1),(9,lf 1 1),(8,lf 0 1)] 10 (.mkSl
 [z]) (c2 (b .sub (lf 1 1) (i 1)) (b .sub (lf 1 1) (i 1)))^h 12 (.mkSl [z]) (c2 11 11)^hh [(13,.node (.build [z,z,u,u] [(0,1),(1,1),(2,1),(3,1)]) (c
 8 (c3 9 10 12)))] 4 (.alloc [z,z,u,u]) .nil^w 4 4 13)^s [(5,i 1)]^(s [(15,i 0),(14,ln (lf 2 4))]^bk 0 (lo (k (b .lss 15 14) e (xt 0)^bk 1 (s [(6,
 15)]^(Stm.hv [(20,ia 1 (lf 2 4) 6),(19,6),(18,5),(17,lf 3 4),(16,fa 3 4)] [] [] none (.st 1) (c2 (ia 1 (lf 2 4) 6) 5)^w 1 (ia 1 17 18) 19^Stm.dist 20
 16)^cl 21 115 (c3 (lt 3 1) 5 3)^Stm.sets [(5,ix 0 21)] [ix 1 21])^s [(15,ad 15 (i 1))])))^w 4 2 (lt 4 4)^r
def NT:Stm:=
 s [(1,f)]^(h 4 (.bSl [.nilFunc] 6 [0,1,2,3,4,5]) (c (n1 (.mkF 116 1) 0) (c (n1 (.mkF 117 1) 0) (c (n1 (.mkF 118 1) 0) (c3 (n1 (.mkF 119 1) 0) (n1 (.mkF
 120 1) 0) (n1 (.mkF 121 1) 0)))))^s [(2,4)])^(s [(7,i 0),(6,ln 2),(5,2)]^bk 0 (lo (k (b .lss 7 6) e (xt 0)^bk 1 (s [(3,ld (ia 1 5 7))]^h 8 (.call
 false) (c1 3)^kq (n1 (.un .not) 8) (s [(1,f)]^r))^s [(7,ad 7 (i 1))])))^s [(1,t)]^r
def NU:Stm:=
 s [(3,i 0),(2,.cst u)]^(h 7 (.mkSl [.bool false]) (c2 0 0)^s [(4,7)])^s [(5,i 0)]^(s [(6,i 0)]^bk 0 (lo (k (b .lss 6 (ln 1)) e (xt 0)^bk 1 (kq (n1 (.un
 .not) (ld (ia 1 4 (ld (ia 1 1 6))))) (w 1 (ia 1 4 (ld (ia 1 1 6))) t^s [(5,ad 5 (i 1))]))^s [(6,ad 6 (i 1))])))^s [(3,5),(2,4)]^r
def uz:Stm:=
 (h 4 .box (c1 0)^h 5 (.alloc [u,u]) .nil^s [(6,i 0)])^(hh [(24,lt 3 (fa 0 4))] 7 (.alloc [z,z,z]) .nil^w 3 7 24)^(cl 25 122 (c2 (lt 5 4) 1)^s [(8,
 25)])^(cl 26 123 (c2 (lt 3 7) (ln 1))^s [(9,26)])^(h 27 (.bSl [z] 1 [0]) (c1 (i 1))^s [(10,27)])^(s [(11,i 0)]^bk 0 (lo (k (b .lss 11 (ln 1)) e (xt 0)^bk 1
 (kq (ld (ia 1 2 11)) (hh [(32,ad (ln 10) (i 1)),(29,10),(28,lt 3 7)] 30 (.call true) (c (fn 68) (c3 (lt 3 7) (i 0) (ld (ia 1 9 11))))^h 31 (.bSl [z] 2
 [0,1]) (c2 (i 1) 30)^h 33 .callC (c (fn 112) (c 28 (c3 29 31 32)))^s [(10,33)]))^s [(11,ad 11 (i 1))])))^(hh [(36,3),(34,lt 3 7)] 35 (.call true) (c (fn
 112) (c (lt 3 7) (c3 8 10 (ln 8))))^h 37 .callC (c3 (fn 124) 34 (n2 (.sl 1 true false false) 35 36))^s [(13,ix 1 37),(12,ix 0 37)])^s [(15,.cst u),(14,
 .cst u)]^s [(16,i 0)]^(s [(17,i 0)]^bk 2 (lo (k (b .lss 17 (ln 1)) e (xt 2)^bk 3 ((Stm.hv [(40,p (n1 (.un .not) (ld (ia 1 2 17))) 12 (.cst (.tuple #[]))),
 (39,p (n1 (.un .not) (ld (ia 1 2 17))) (lt 3 7) (.cst (.tuple #[]))),(38,n1 (.un .not) (ld (ia 1 2 17)))] [] [(n1 (.un .not) (ld (ia 1 2 17)),true)] (some
 41) (.call true) (c3 (fn 126) (lt 3 7) (ld (ia 1 9 17)))^Stm.hv [] [] [(38,true)] (some 42) .callC (c (fn 125) (c3 39 40 41))^s [(18,p 38 (b .eql 42 (i 0))
 f)])^kq 18 (s [(16,ad 16 (i 1))])^kq (p 18 t (ld (ia 1 2 17))) ((hh [(43,14)] 44 (.bSl [z] 1 [0]) (c1 (ld (ia 1 9 17)))^h 45 (.app 1 [z]) (c2 43 44)^s [(14,
 45)])^hh [(46,15)] 47 (.bSl [z] 1 [0]) (c1 17)^h 48 (.app 1 [z]) (c2 46 47)^s [(15,48)]))^s [(17,ad 17 (i 1))])))^kq (p (p (b .neq 16 13) t (b .neq 16 (b
 .sub (ln 12) (i 1)))) t (b .gtr (ad (b .mul (i 2) 16) 3) (lf 3 4))) ((w 2 5 (.node (.build [u,u] []) .nil)^s [(6,i 17)])^r)^(hh [(49,.node (.build [u,u]
 []) .nil)] 19 (.alloc [u,u]) .nil^w 2 19 49)^(h 50 (.app 1 [z]) (c2 (lf 0 19) 1)^w 1 (fa 0 19) 50)^(cl 51 127 (c (lt 3 7) (c3 8 14 (lf 4 4)))^s [(20,
 51)])^(s [(21,i 0)]^bk 4 (lo (k (b .lss 21 (ln 15)) e (xt 4)^bk 5 (kq (b .neq (ld (ia 1 20 21)) (i 0)) ((hh [(53,ld (ia 1 15 21)),(52,lf 0 19)] 54 (.call
 true) (c (fn 68) (c3 (lt 3 7) (ld (ia 1 1 (ld (ia 1 15 21)))) (ld (ia 1 20 21))))^w 1 (ia 1 52 53) 54)^hh [(55,lf 1 19)] 56 (.bSl [z] 1 [0]) (c1 (ld (ia 1 15
 21)))^h 57 (.app 1 [z]) (c2 55 56)^w 1 (fa 1 19) 57))^s [(21,ad 21 (i 1))])))^(cl 58 122 (c2 (lt 5 4) (lf 0 19))^s [(22,58)])^(s [(23,i 0)]^bk 6 (lo (k (b
 .lss 23 (ln 22)) e (xt 6)^bk 7 (kq (b .neq (ld (ia 1 22 23)) (i 0)) ((w 2 5 (.node (.build [u,u] []) .nil)^s [(6,i 17)])^r))^s [(23,ad 23 (i 1))])))^(w 2 5
 (lt 2 19)^s [(6,i 0)])^r
def Pu:List Nat:=[0,2,3,4,5,6,10,12,19]
def Pv:List Nat:=[0,2,3,4,5,6,8,10,18,34,43,44,48,49,53,54,55,59,60,63,66,67,78,79,80,84,86,89,92,93]
def NV:Stm:=
 (h 1 .box (c1 0)^s [(3,i 0),(2,i 0)])^s [(3,b .mul (b .quo (lf 1 1) (ad (lf 3 1) (i 2))) (lf 3 1)),(2,b .mul (b .quo (lf 0 1) (ad (lf 2 1) (i 2))) (lf 2
 1))]^r
def NW:Stm:=
 s [(2,.cst u)]^(hh [(11,1),(10,0)] 12 (.bSl [z] 1 [0]) (c1 (i (-1)))^cl 13 131 (c2 12 (b .mul 0 1))^h 14 .box (c1 (.node (.build [z,z,u,z] [(0,1),(1,
 1),(2,1)]) (c3 10 11 13)))^s [(3,14)])^s [(4,n1 (.mkF 132 1) 3)]^s [(6,i 0),(5,i 4)]^(s [(7,t)]^bk 0 (lo (k 7 e (xt 0)^bk 1 (v (.call false) (c (fn
 133) (c 3 (c3 5 6 4)))^(s [(8,t)]^bk 2 (lo (k 8 e (xt 2)^bk 3 ((cl 15 134 (c3 3 5 6)^kq 15 (v (.call false) (c (fn 135) (c 3 (c3 5 6 4)))))^s [(6,ad 6 (i
 2)),(5,b .sub 5 (i 2))])^s [(8,p (b .geq 5 (i 0)) (b .lss 6 1) f)])))^s [(6,ad 6 (i 3)),(5,ad 5 (i 1))]^(s [(9,t)]^bk 4 (lo (k 9 e (xt 4)^bk 5 ((cl 16
 134 (c3 3 5 6)^kq 16 (v (.call false) (c (fn 135) (c 3 (c3 5 6 4)))))^s [(6,b .sub 6 (i 2)),(5,ad 5 (i 2))])^s [(9,p (b .lss 5 0) (b .geq 6 (i 0))
 f)])))^s [(6,ad 6 (i 1)),(5,ad 5 (i 3))])^s [(7,p (b .lss 5 0) t (b .lss 6 1))])))^s [(2,lf 2 (nk 3))]^r
def QZ:CF:=⟨2,17,[(.var 2)],NW,.plain⟩
def NX:Stm:=
 (h 3 .box (c1 0)^h 4 (.alloc [.bool false,.bool false,z]) .nil)^s [(6,ad (lf 3 3) (i 2)),(5,ad (lf 2 3) (i 2))]^s [(8,b .rem 2 6),(7,b .rem 1 5)]^bk 0
 (k (p (b .eql 8 (i 0)) t (b .eql 7 (b .sub 5 (i 1)))) (w 3 4 (n2 (.build [.bool false,.bool false,z] [(0,1),(1,1)]) t t)^r) (k (b .eql 7 (i 0)) (w 3 4
 (n2 (.build [.bool false,.bool false,z] [(0,1),(1,1)]) t (b .eql (b .rem 8 (i 2)) (i 0)))^r) (kq (b .eql 8 (b .sub 6 (i 1))) (w 3 4 (n2 (.build [.bool
 false,.bool false,z] [(0,1),(1,1)]) t (b .eql (b .rem 7 (i 2)) (i 1)))^r))))^(cl 10 77 (c1 (lt 7 3))^Stm.sets [(9,ix 1 10)] [ix 0 10])^w 3 4 (n1 (.build
 [.bool false,.bool false,z] [(2,1)]) (b .sub (ad (ad (b .mul (b .sub (ad (b .mul (b .quo 1 5) (lf 2 3)) 7) (i 1)) 9) (b .mul (b .quo 2 6) (lf 3 3))) 8) (i
 1)))^r
def Pw:List Nat:=[0,1,2,6,7,8]
def NY:Stm:=
 s [(1,f)]^(s [(2,i 0)]^bk 0 (lo (k (b .lss 2 (ln 0)) e (xt 0)^bk 1 (kq (p (b .lss (ld (ia 1 0 2)) (i 0)) t (b .gtr (ld (ia 1 0 2)) (i 255))) (s [(1,f)]^r))^s
 [(2,ad 2 (i 1))])))^s [(1,t)]^r
def NZ:Stm:=
 (h 1 .box (c1 0)^s [(3,i 0),(2,i 0)])^s [(3,b .mul (b .quo (lf 1 1) (ad (lf 3 1) (i 2))) (lf 3 1)),(2,b .mul (b .quo (lf 0 1) (ad (lf 2 1) (i 2))) (lf 2
 1))]^r
def N0:Stm:=
 s [(2,.cst u)]^(h 7 .box (c1 (n2 (.build [z,z,z,u] [(0,1),(1,1)]) 0 1))^s [(3,7)])^(s [(4,i 0)]^bk 0 (lo (k (b .lss 4 (b .mul 0 1)) e (xt 0)^bk 1 (hh
 [(9,lf 3 (nk 3)),(8,3)] 10 (.bSl [z] 1 [0]) (c1 (i (-1)))^h 11 (.app 1 [z]) (c2 9 10)^w 1 (fa 3 (nk 8)) 11)^s [(4,ad 4 (i 1))])))^s [(5,i 4)]^s [(6,i
 0)]^bk 2 (lo (k (p (b .lss 5 0) t (b .lss 6 1)) e (xt 2)^bk 3 (v (.call false) (c (fn 136) (c3 3 5 6))^v (.call false) (c (fn 137) (c3 3 5 6))^s [(5,b .sub 5
 (i 2))]^s [(6,ad 6 (i 2))]^bk 4 (lo (k (p (b .geq 5 (i 0)) (b .lss 6 1) f) e (xt 4)^bk 5 (v (.call false) (c (fn 137) (c3 3 5 6))^s [(5,b .sub 5 (i 2))]^s
 [(6,ad 6 (i 2))])))^s [(5,ad 5 (i 1))]^s [(6,ad 6 (i 3))]^v (.call false) (c (fn 137) (c3 3 5 6))^s [(5,ad 5 (i 2))]^s [(6,b .sub 6 (i 2))]^bk 6 (lo (k
 (p (b .lss 5 0) (b .geq 6 (i 0)) f) e (xt 6)^bk 7 (v (.call false) (c (fn 137) (c3 3 5 6))^s [(5,ad 5 (i 2))]^s [(6,b .sub 6 (i 2))])))^s [(5,ad 5 (i
 3))]^s [(6,ad 6 (i 1))])))^s [(2,lf 3 (nk 3))]^r
def N1:Stm:=
 (h 3 .box (c1 0)^s [(5,f),(4,f)])^s [(6,b .rem 1 (ad (lf 3 3) (i 2)))]^s [(7,b .rem 2 (ad (lf 2 3) (i 2)))]^kq (p (b .eql 6 (i 0)) t (b .eql 7 (ad (lf 2 3)
 (i 1)))) (s [(5,t),(4,t)]^r)^kq (b .eql 7 (i 0)) (s [(5,b .eql (b .rem 6 (i 2)) (i 0)),(4,t)]^r)^s [(5,b .eql (b .rem 7 (i 2)) (i 1)),(4,b .eql 6 (ad
 (lf 3 3) (i 1)))]^r
def N3:Stm:=
 (h 3 .box (c1 0)^s [(4,i 0)])^(cl 8 82 (c1 (lt 7 3))^Stm.sets [(5,ix 1 8)] [ix 0 8])^s [(6,b .sub (ad (b .mul (b .quo 1 (ad (lf 3 3) (i 2))) (lf 3 3)) (b
 .rem 1 (ad (lf 3 3) (i 2)))) (i 1))]^s [(7,b .sub (ad (b .mul (b .quo 2 (ad (lf 2 3) (i 2))) (lf 2 3)) (b .rem 2 (ad (lf 2 3) (i 2)))) (i 1))]^s [(4,ad (b
 .mul 7 5) 6)]^r
def N4:Stm:=
 (h 1 .box (c1 0)^s [(2,f)])^s [(2,p (p (p (p (p (b .geq (lf 0 1) (i 1)) (b .leq (lf 0 1) (i 4096)) f) (b .geq (lf 1 1) (i 1)) f) (b .leq (lf 1 1) (i 4096)) f)
 (b .leq (b .mul (lf 0 1) (lf 1 1)) (i 4194304)) f) (b .eql (ln (lf 2 1)) (b .mul (lf 0 1) (lf 1 1))) f)]^r
def N5:Stm:=
 s [(2,i 0)]^(s [(5,i 0),(4,ln 0)]^bk 0 (lo (k (b .lss 5 4) e (xt 0)^bk 1 (s [(3,5)]^h 6 (.call false) (c2 1 (lt 7 (ia 7 0 3)))^kq 6 (s [(2,3)]^r))^s [(5,
 ad 5 (i 1))])))^s [(2,i (-1))]^r
def N6:Stm:=
 (h 2 .box (c1 0)^s [(3,f)])^s [(3,p (b .eql (lf 0 2) (lf 1 1)) (b .eql (lf 1 2) (lf 0 1)) f)]^r
def N7:Stm:=
 s [(2,i 0)]^bk 0 (k (p (b .geq 1 (i 1)) (b .leq 1 (i 128)) f) ((hh [(5,lf 2 (nk 0)),(4,0)] 6 (.bSl [.int .u8 0] 1 [0]) (c1 (n1 (.cvt .u8) (b .sub 1 (i
 1))))^h 7 (.app 1 [.int .u8 0]) (c2 5 6)^w 1 (fa 2 (nk 4)) 7)^s [(2,i 0)]^r) (kq (p (b .geq 1 (i 130)) (b .lss 1 (i 230)) f) (s [(3,b .sub 1 (i 130))]^(hh
 [(9,lf 2 (nk 0)),(8,0)] 10 (.bSl [.int .u8 0] 2 [0,1]) (c2 (n1 (.cvt .u8) (ad (i 48) (b .quo 3 (i 10)))) (n1 (.cvt .u8) (ad (i 48) (b .rem 3 (i 10)))))^h
 11 (.app 1 [.int .u8 0]) (c2 9 10)^w 1 (fa 2 (nk 8)) 11)^s [(2,i 0)]^r)))^(s [(12,1)]^bk 1 (k (b .eql 12 (i 235)) ((cl 13 138 (c1 0)^s [(2,13)])^r) (k (b
 .eql 12 (i 230)) ((cl 14 139 (c2 0 f)^s [(2,14)])^r) (k (b .eql 12 (i 239)) ((cl 15 139 (c2 0 t)^s [(2,15)])^r) (k (b .eql 12 (i 231)) ((cl 16 140 (c1 0)^s
 [(2,16)])^r) (k (b .eql 12 (i 238)) ((cl 17 141 (c1 0)^s [(2,17)])^r) (kq (b .eql 12 (i 240)) ((cl 18 142 (c1 0)^s [(2,18)])^r))))))))^s [(2,i 22)]^r
def N8:Stm:=
 (h 1 .box (c1 0)^s [(2,f)])^s [(2,p (p (p (p (p (b .geq (lf 0 1) (i 1)) (b .leq (lf 0 1) (i 4096)) f) (b .geq (lf 1 1) (i 1)) f) (b .leq (lf 1 1) (i 4096)) f)
 (b .leq (b .mul (lf 0 1) (lf 1 1)) (i 4194304)) f) (b .eql (ln (lf 2 1)) (b .mul (lf 0 1) (lf 1 1))) f)]^r
def N9:Stm:=
 (h 2 .box (c1 1)^h 3 (.alloc [z,z,z,.bool false,u,.bool false]) .nil^s [(4,i 0)])^s [(5,ld (ia 1 0 (lf 0 2)))]^w 1 (fa 0 2) (ad (lf 0 2) (i 1))^bk 0 (k
 (p (b .geq 5 (i 1)) (b .leq 5 (i 128)) f) (hh [(6,lf 4 2)] 7 (.bSl [.int .u8 0] 1 [0]) (c1 (n1 (.cvt .u8) (b .sub 5 (i 1))))^h 8 (.app 1 [.int .u8 0]) (c2 6
 7)^w 1 (fa 4 2) 8) (k (b .eql 5 (i 129)) (w 1 (fa 5 2) t) (k (p (b .geq 5 (i 130)) (b .leq 5 (i 229)) f) (hh [(9,lf 4 2)] 10 (.bSl [.int .u8 0] 2 [0,1]) (c2
 (n1 (.cvt .u8) (ad (i 48) (b .quo (b .sub 5 (i 130)) (i 10)))) (n1 (.cvt .u8) (ad (i 48) (b .rem (b .sub 5 (i 130)) (i 10)))))^h 11 (.app 1 [.int .u8 0]) (c2
 9 10)^w 1 (fa 4 2) 11) (k (b .eql 5 (i 230)) (w 1 (fa 1 2) (i 1)) (k (b .eql 5 (i 231)) ((cl 12 143 (c2 0 (lt 6 2))^Stm.hv [(13,ix 1 12)] [] [] none (.st 6)
 (c2 3 (ix 0 12))^s [(4,13)])^r) (k (b .eql 5 (i 235)) (kq (b .eql (lf 0 2) (ln 0)) ((w 6 3 (lt 6 2)^s [(4,i 10)])^r)^kq (p (b .lss (ld (ia 1 0 (lf 0 2))) (i
 1)) t (b .gtr (ld (ia 1 0 (lf 0 2))) (i 128))) ((w 6 3 (lt 6 2)^s [(4,i 22)])^r)^(hh [(14,lf 4 2)] 15 (.bSl [.int .u8 0] 1 [0]) (c1 (n1 (.cvt .u8) (ad (ld
 (ia 1 0 (lf 0 2))) (i 127))))^h 16 (.app 1 [.int .u8 0]) (c2 14 15)^w 1 (fa 4 2) 16)^w 1 (fa 0 2) (ad (lf 0 2) (i 1))) (k (b .eql 5 (i 238)) (w 1 (fa 1 2) (i
 3)) (k (b .eql 5 (i 239)) (w 1 (fa 1 2) (i 2)) (k (b .eql 5 (i 240)) (w 1 (fa 1 2) (i 4)) ((w 6 3 (lt 6 2)^s [(4,i 22)])^r))))))))))^(w 6 3 (lt 6 2)^s [(4,i
 0)])^r
def Na:Stm:=
 (h 2 .box (c1 1)^h 3 (.alloc [z,z,z,.bool false,u,.bool false]) .nil^s [(4,i 0)])^s [(5,i 0)]^bk 0 (lo (bk 1 (s [(6,i 0)]^(s [(7,b .mul (i 6) 5)]^bk 2
 (lo (k (b .lss 7 (ad (b .mul (i 6) 5) (i 6))) e (xt 2)^bk 3 (s [(8,ad (lf 0 2) (b .quo 7 (i 8)))]^kq (b .geq 8 (ln 0)) ((w 6 3 (lt 6 2)^s [(4,i 10)])^r)^s
 [(6,ad (b .mul (i 2) 6) (b .and (b .shr (ld (ia 1 0 8)) (n1 (.cvt .u64) (b .sub (i 7) (b .rem 7 (i 8))))) (i 1)))])^s [(7,ad 7 (i 1))])))^kq (b .neq 6 (i
 31)) ((hh [(11,lf 4 2)] 12 (.bSl [.int .u8 0] 1 [0]) (c1 (n1 (.cvt .u8) (b .sub (ad 6 (i 64)) (b .mul (i 64) (b .quo 6 (i 32))))))^h 13 (.app 1 [.int .u8 0])
 (c2 11 12)^w 1 (fa 4 2) 13)^xt 1)^s [(9,ad (lf 0 2) (b .quo (ad (b .mul (i 6) 5) (i 5)) (i 8)))]^(s [(10,ad (b .rem (ad (b .mul (i 6) 5) (i 5)) (i 8)) (i
 1))]^kq (b .neq (b .rem (ld (ia 1 0 9)) (b .shl (i 1) (n1 (.cvt .u64) (b .sub (i 8) 10)))) (i 0)) ((w 6 3 (lt 6 2)^s [(4,i 22)])^r))^(w 6 3 (n2 (.build [z,
 z,z,.bool false,u,.bool false] [(0,1),(4,1)]) (ad 9 (i 1)) (lf 4 2))^s [(4,i 0)])^r)^s [(5,ad 5 (i 1))]))
def Nb:Stm:=
 (h 2 .box (c1 1)^h 3 (.alloc [z,z,z,.bool false,u,.bool false]) .nil^s [(4,i 0)])^kq (b .eql (ld (ia 1 0 (lf 0 2))) (i 254)) ((w 6 3 (n2 (.build [z,z,z,
 .bool false,u,.bool false] [(0,1),(4,1)]) (ad (lf 0 2) (i 1)) (lf 4 2))^s [(4,i 0)])^r)^kq (b .eql (ad (lf 0 2) (i 1)) (ln 0)) ((w 6 3 (lt 6 2)^s [(4,i
 10)])^r)^s [(5,b .sub (ad (b .mul (i 256) (ld (ia 1 0 (lf 0 2)))) (ld (ia 1 0 (ad (lf 0 2) (i 1))))) (i 1))]^kq (p (b .lss 5 (i 0)) t (b .geq 5 (i 64000)))
 ((w 6 3 (lt 6 2)^s [(4,i 22)])^r)^(h 9 (.bSl [z] 3 [0,1,2]) (c3 (b .quo 5 (i 1600)) (b .rem (b .quo 5 (i 40)) (i 40)) (b .rem 5 (i 40)))^s [(6,9)])^w 1
 (fa 0 2) (ad (lf 0 2) (i 2))^s [(7,i 0)]^(s [(8,i 0)]^bk 0 (lo (k (p (b .lss 8 (i 3)) (b .eql 7 (i 0)) f) e (xt 0)^bk 1 (k (b .eql (lf 1 2) (i 3)) (hh [(10,
 lf 4 2)] 11 (.call true) (c2 (fn 144) (ld (ia 1 6 8)))^h 12 (.bSl [.int .u8 0] 1 [0]) (c1 (n1 (.cvt .u8) 11))^h 13 (.app 1 [.int .u8 0]) (c2 10 12)^w 1 (fa 4
 2) 13) (h 14 .callC (c3 (fn 145) (lt 6 2) (ld (ia 1 6 8)))^Stm.hv [(15,ix 1 14)] [] [] none (.st 6) (c2 2 (ix 0 14))^s [(7,15)]))^s [(8,ad 8 (i
 1))])))^(Stm.hv [(16,7)] [] [] none (.st 6) (c2 3 (lt 6 2))^s [(4,16)])^r
def Nc:Stm:=
 (h 2 .box (c1 1)^s [(3,i 0)])^(s [(6,i 0),(5,ln 0)]^bk 0 (lo (k (b .lss 6 5) e (xt 0)^bk 1 (s [(4,6)]^kq (n2 (.eqA false [1,1,1,1,1,1,1]) (lt 7 2)
 (lt 7 (ia 7 0 4))) (s [(3,4)]^r))^s [(6,ad 6 (i 1))])))^s [(3,i (-1))]^r
def Hj:Stm:=
 (h 1 .box (c1 0)^s [(2,f)])^kq (b .eql (lf 2 1) (i 0)) ((Stm.hv [(3,p (p (b .gtr (lf 1 1) (i 2)) (b .leq (lf 1 1) (i 4096)) f) (n2 (.eqA false [1,1,1]) (lt
 3 1) (n2 (.build [z,z,z] [(0,1),(1,1)]) (lf 1 1) (lf 1 1))) f)] [] [(p (p (b .gtr (lf 1 1) (i 2)) (b .leq (lf 1 1) (i 4096)) f) (n2 (.eqA false [1,1,
 1]) (lt 3 1) (n2 (.build [z,z,z] [(0,1),(1,1)]) (lf 1 1) (lf 1 1))) f,true)] (some 4) (.call false) (c2 (fn 148) (lf 1 1))^s [(2,p 3 4 f)])^r)^(Stm.hv
 [(5,b .lss (lf 2 1) (i 2))] [] [(b .lss (lf 2 1) (i 2),false)] (some 6) (.call false) (c2 (fn 149) (lf 2 1))^kq (p 5 t (b .gtr 6 (i 12))) (s [(2,
 f)]^r))^(hh [(9,lf 2 1),(7,lt 3 1)] 8 (.call true) (c2 (fn 149) (lf 2 1))^Stm.hv [(10,n2 (.eqA false [1,1,1]) 7 (.node (.build [z,z,z] [(0,1),(1,
 1),(2,1)]) (c3 (i 2) (b .shl (i 1) 8) 9)))] [] [(n2 (.eqA false [1,1,1]) 7 (.node (.build [z,z,z] [(0,1),(1,1),(2,1)]) (c3 (i 2) (b .shl (i 1) 8)
 9)),true)] (some 11) .callC (c2 (fn 150) (lf 2 1))^s [(2,p 10 11 f)])^r
def Hk:Stm:=
 (h 3 .box (c1 0)^s [(4,f)])^s [(4,p (p (p (b .geq 1 (i 1)) (b .leq 1 (b .sub (lf 1 3) (i 2))) f) (b .geq 2 (i 0)) f) (b .leq 2 (b .sub (lf 1 3) (i 2))) f)]^r
def Hl:Stm:=
 (h 2 .box (c1 0)^s [(3,f)])^(s [(7,i 0),(6,ln 1),(5,1)]^bk 0 (lo (k (b .lss 7 6) e (xt 0)^bk 1 (s [(4,ld (ia 1 5 7))]^kq (p (b .lss 4 (i 0)) t (b .geq 4
 (lf 1 2))) (s [(3,f)]^r))^s [(7,ad 7 (i 1))])))^s [(3,t)]^r
def Hm:Stm:=
 (h 2 .box (c1 0)^s [(3,i 0)])^s [(3,ld (ia 1 (lf 2 2) (b .rem 1 (b .sub (lf 1 2) (i 1)))))]^r
def J1:List Nat:=[0,1,2,4,5,6,7,9,11,13,16,23,24,25,26,27,34]
def J2:List Nat:=[0,1,2,4,6,7,9,11,12,13,33,36]
def J3:List Nat:=[0,1,2,3,5,6,7,10,14,16,20,22,23,24,27,28,34,35,36,38,39,45]
def J4:List Nat:=[0,1,2,3,6,7,8,9,10,11,12,14,26,45,50,51,52,57,60,61,67,71,72,75,77]
def Hn:Stm:=
 (h 2 .box (c1 0)^s [(3,f)])^(cl 5 100 (c1 (lt 3 2))^kq (n1 (.un .not) 5) (s [(3,f)]^r))^(s [(8,i 0),(7,ln 1),(6,1)]^bk 0 (lo (k (b .lss 8 7) e (xt 0)^bk
 1 (s [(4,ld (ia 1 6 8))]^kq (p (b .lss 4 (i 0)) t (b .geq 4 (lf 1 2))) (s [(3,f)]^r))^s [(8,ad 8 (i 1))])))^s [(3,t)]^r
def Ho:Stm:=
 (h 1 .box (c1 0)^s [(2,f)])^kq (b .eql (lf 0 1) (i 2)) ((cl 4 156 (c1 (lf 1 1))^s [(3,4)])^(Stm.hv [(5,p (p (p (b .geq 3 (i 1)) (b .leq 3 (i 12)) f) (b .eql
 (lf 1 1) (b .shl (i 1) (n1 (.cvt .u64) 3))) f) (b .lss (lf 2 1) (b .shl (i 1) (n1 (.cvt .u64) (ad 3 (i 1))))) f)] [] [(p (p (p (b .geq 3 (i 1)) (b .leq 3 (i
 12)) f) (b .eql (lf 1 1) (b .shl (i 1) (n1 (.cvt .u64) 3))) f) (b .lss (lf 2 1) (b .shl (i 1) (n1 (.cvt .u64) (ad 3 (i 1))))) f,true)] (some 6) (.call false)
 (c3 (fn 157) (lf 2 1) 3)^s [(2,p 5 6 f)])^r)^(Stm.hv [(7,p (p (p (b .eql (lf 0 1) (lf 1 1)) (b .eql (lf 2 1) (i 0)) f) (b .geq (lf 1 1) (i 3)) f) (b .leq
 (lf 1 1) (i 4096)) f)] [] [(p (p (p (b .eql (lf 0 1) (lf 1 1)) (b .eql (lf 2 1) (i 0)) f) (b .geq (lf 1 1) (i 3)) f) (b .leq (lf 1 1) (i 4096)) f,true)]
 (some 8) (.call false) (c2 (fn 158) (lf 1 1))^s [(2,p 7 8 f)])^r
def Hp:Stm:=
 (h 2 .box (c1 0)^s [(3,f)])^s [(3,p (b .geq 1 (i 0)) (b .lss 1 (lf 1 2)) f)]^r
def Hq:Stm:=
 (h 1 .box (c1 0)^s [(2,.cst u)])^(cl 7 159 (c1 (lt 3 (fa 0 1)))^s [(3,7)])^s [(4,.cst u)]^(cl 8 160 (c3 (lt 3 (fa 0 1)) 3 (lf 4 1))^s [(5,8)])^(s [(6,i
 0)]^bk 0 (lo (k (b .lss 6 (lf 3 1)) e (xt 0)^bk 1 ((hh [(9,4)] 10 (.bSl [z] 1 [0]) (c1 5)^h 11 (.app 1 [z]) (c2 9 10)^s [(4,11)])^cl 12 69 (c3 (lt 3 (fa 0
 1)) 5 3)^s [(5,12)])^s [(6,ad 6 (i 1))])))^s [(2,4)]^r
def Hr:Stm:=
 (h 4 .box (c1 0)^s [(5,.cst u)])^(h 9 (.mkSl [z]) (c2 (n2 (.minmax false) 3 (n2 (.minmax true) (i 0) (b .sub (ad (ln 1) (ln 2)) (i 1)))) (n2 (.minmax false) 3
 (n2 (.minmax true) (i 0) (b .sub (ad (ln 1) (ln 2)) (i 1)))))^s [(6,9)])^(s [(7,i 0)]^bk 0 (lo (k (b .lss 7 (ln 1)) e (xt 0)^bk 1 (s [(8,i 0)]^bk 2 (lo (k
 (p (b .lss 8 (ln 2)) (b .lss (ad 7 8) (ln 6)) f) e (xt 2)^bk 3 (hh [(13,ld (ia 1 6 (ad 7 8))),(12,lt 3 4),(11,ad 7 8),(10,6)] 14 (.call true) (c (fn
 69) (c3 (lt 3 4) (ld (ia 1 1 7)) (ld (ia 1 2 8))))^h 15 .callC (c (fn 67) (c3 12 13 14))^w 1 (ia 1 10 11) 15)^s [(8,ad 8 (i 1))])))^s [(7,ad 7 (i 1))])))^s
 [(5,6)]^r
def Ht:Stm:=
 s [(2,i 0)]^(cl 5 156 (c1 1)^s [(3,5)])^((cl 6 156 (c1 0)^s [(4,6)])^bk 0 (lo (k (b .geq 4 3) e (xt 0)^bk 1 (kq (b .eql (b .and (b .shr 0 (n1 (.cvt .u64) 4))
 (i 1)) (i 1)) (s [(0,b .xor 0 (b .shl 1 (n1 (.cvt .u64) (b .sub 4 3))))]))^s [(4,b .sub 4 (i 1))])))^s [(2,0)]^r
def Hu:Stm:=
 (h 1 .box (c1 0)^s [(3,i 0),(2,i 0)])^(cl 4 108 (c2 (lt 3 1) (.cst u))^kq (n1 (.un .not) 4) (s [(3,i 1),(2,i 0)]^r))^(cl 5 161 (c1 (lt 3 1))^s [(3,i 0),
 (2,5)])^r
def Hv:Stm:=
 (h 3 .box (c1 0)^s [(5,i 0),(4,i 0)])^(hh [(6,lt 3 3)] 7 (.bSl [z] 2 [0,1]) (c2 1 2)^cl 8 108 (c2 6 7)^kq (n1 (.un .not) 8) (s [(5,i 1),(4,i 0)]^r))^(cl
 9 162 (c3 (lt 3 3) 1 2)^s [(5,i 0),(4,9)])^r
def Hw:Stm:=
 s [(1,f)]^(hh [(2,0)] 3 .callC (c (fn 163) (c3 (lt 4 (fa 0 (nk 0))) (lt 5 (fa 4 (nk 0))) (lf 9 (nk 0))))^w 1 (fa 12 (nk 2)) 3)^s [(1,b .leq (lf 11 (nk 0))
 (lf 3 (fa 4 (nk 0))))]^r
def Hy:Stm:=
 s [(1,f)]^(hh [(4,0)] 5 (.bSl [z] 1 [0]) (c1 (i 1))^w 1 (fa 13 (nk 4)) 5)^(s [(8,i 0),(7,ln (lf 10 (nk 0))),(6,lf 10 (nk 0))]^bk 0 (lo (k (b .lss 8 7) e
 (xt 0)^bk 1 (s [(3,ld (ia 1 6 8)),(2,8)]^kq 3 (hh [(13,lt 4 (fa 0 (nk 0))),(12,lf 13 (nk 0)),(11,lf 13 (nk 0)),(10,lt 4 (fa 0 (nk 0))),(9,0)] 14
 (.call true) (c3 (fn 165) 0 2)^h 15 (.call true) (c3 (fn 103) 13 14)^h 16 .callC (c (fn 164) (c 10 (c 11 (c3 12 (i 1) 15))))^w 1 (fa 13 (nk 9)) 16))^s [(8,ad
 8 (i 1))])))^s [(1,t)]^r
def Hz:Stm:=
 s [(1,f)]^(h 3 .callC (c (fn 166) (c (lt 4 (fa 0 (nk 0))) (c3 (lf 12 (nk 0)) (lf 13 (nk 0)) (lf 3 (fa 4 (nk 0))))))^s [(2,3)])^(hh [(4,0)] 5 .callC (c3 (fn
 167) (lt 4 (fa 0 (nk 0))) (n2 (.sl 1 true false false) 2 (lf 11 (nk 0))))^w 1 (fa 14 (nk 4)) 5)^s [(1,b .leq (ad (b .mul (i 2) (b .sub (ln (lf 14 (nk 0))) (i
 1))) (lf 11 (nk 0))) (lf 3 (fa 4 (nk 0))))]^r
def IA:Stm:=
 s [(1,f)]^s [(2,i 0)]^(s [(8,i 0),(7,ln (lf 10 (nk 0))),(6,lf 10 (nk 0))]^bk 0 (lo (k (b .lss 8 7) e (xt 0)^bk 1 (s [(4,ld (ia 1 6 8)),(3,8)]^(hh
 [(10,b .sub (lf 1 (fa 0 (nk 0))) (i 1)),(9,lt 4 (fa 0 (nk 0)))] 11 (.call true) (c3 (fn 165) 0 3)^h 12 .callC (c3 (fn 103) 9 (b .sub 10 11))^s [(5,
 12)])^Stm.hv [(13,n1 (.un .not) 4)] [] [(n1 (.un .not) 4,true)] (some 14) .callC (c (fn 168) (c3 (lt 4 (fa 0 (nk 0))) (lf 14 (nk 0)) 5))^k (p 13 (b .eql 14
 (i 0)) f) (s [(2,ad 2 (i 1))]^hh [(16,lf 15 (nk 0)),(15,0)] 17 (.bSl [z] 1 [0]) (c1 3)^h 18 (.app 1 [z]) (c2 16 17)^w 1 (fa 15 (nk 15)) 18) (kq 4 (hh
 [(20,lf 15 (nk 0)),(19,0)] 21 (.bSl [z] 1 [0]) (c1 3)^h 22 (.app 1 [z]) (c2 20 21)^w 1 (fa 15 (nk 19)) 22)))^s [(8,ad 8 (i 1))])))^s [(1,b .eql 2 (b .sub
 (ln (lf 14 (nk 0))) (i 1)))]^r
def IB:Stm:=
 s [(1,f)]^(h 9 .callC (c (fn 166) (c (lt 4 (fa 0 (nk 0))) (c3 (lf 13 (nk 0)) (lf 14 (nk 0)) (b .sub (ad (ln (lf 13 (nk 0))) (ln (lf 14 (nk 0)))) (i 1)))))^s
 [(2,9)])^(h 10 .callC (c (fn 166) (c (lt 4 (fa 0 (nk 0))) (c3 (lf 12 (nk 0)) 2 (lf 3 (fa 4 (nk 0))))))^s [(3,10)])^(cl 11 169 (c2 (lt 4 (fa 0 (nk 0))) 2)^s
 [(4,11)])^(s [(14,i 0),(13,ln (lf 15 (nk 0))),(12,lf 15 (nk 0))]^bk 0 (lo (k (b .lss 14 13) e (xt 0)^bk 1 (s [(5,ld (ia 1 12 14))]^(hh [(16,b .sub (lf
 1 (fa 0 (nk 0))) (i 1)),(15,lt 4 (fa 0 (nk 0)))] 17 (.call true) (c3 (fn 165) 0 5)^h 18 .callC (c3 (fn 103) 15 (b .sub 16 17))^s [(6,18)])^(hh [(21,b .sub
 (ad (lf 4 (fa 4 (nk 0))) (lf 1 (fa 0 (nk 0)))) (i 2)),(19,lt 4 (fa 0 (nk 0)))] 20 (.call true) (c3 (fn 165) 0 5)^h 22 .callC (c3 (fn 103) 19 (b .mul 20
 21))^s [(7,22)])^(hh [(24,7),(23,lt 4 (fa 0 (nk 0)))] 25 (.call true) (c (fn 168) (c3 (lt 4 (fa 0 (nk 0))) 4 6))^h 26 .callC (c (fn 170) (c3 23 24 25))^s
 [(8,26)])^kq (b .eql 8 (i 0)) (s [(1,f)]^r)^hh [(33,8),(31,lt 4 (fa 0 (nk 0))),(30,ld (ia 1 (lf 9 (nk 0)) 5)),(29,lt 4 (fa 0 (nk 0))),(28,5),(27,
 lf 9 (nk 0))] 32 (.call true) (c (fn 168) (c3 (lt 4 (fa 0 (nk 0))) 3 6))^h 34 (.call true) (c (fn 172) (c3 31 32 33))^h 35 (.call true) (c (fn 171) (c3 29 30
 34))^w 1 (ia 1 27 28) 35)^s [(14,ad 14 (i 1))])))^s [(1,t)]^r
def IC:Stm:=
 s [(1,f)]^((hh [(5,i 0)] 3 .callC (c (fn 163) (c3 (lt 4 (fa 0 (nk 0))) (lt 5 (fa 4 (nk 0))) (lf 9 (nk 0))))^s [(4,ln 3)])^bk 0 (lo (k (b .lss 5 4) e (xt
 0)^bk 1 (s [(2,ld (ia 1 3 5))]^kq (b .neq 2 (i 0)) (s [(1,f)]^r))^s [(5,ad 5 (i 1))])))^s [(1,t)]^r
def ID:Stm:=
 (h 2 .box (c1 0)^s [(3,.cst u)])^(cl 7 111 (c1 (lt 5 2))^s [(4,7)])^s [(5,.cst u)]^(s [(6,i 0)]^bk 0 (lo (k (b .lss 6 (ln 4)) e (xt 0)^bk 1 (hh [(8,5)] 9
 .callC (c (fn 173) (c3 (lt 3 (fa 0 2)) 1 (ld (ia 1 4 6))))^h 10 (.bSl [z] 1 [0]) (c1 9)^h 11 (.app 1 [z]) (c2 8 10)^s [(5,11)])^s [(6,ad 6 (i 1))])))^s [(3,
 5)]^r
def IE:Stm:=
 (h 2 .box (c1 0)^s [(3,.cst u)])^(cl 8 159 (c1 (lt 3 2))^s [(4,8)])^(h 9 (.mkSl [z]) (c2 1 1)^s [(5,9)])^s [(6,i 1)]^(s [(7,b .sub 1 (i 1))]^bk 0 (lo (k (b
 .geq 7 (i 0)) e (xt 0)^bk 1 (w 1 (ia 1 5 7) 6^cl 10 69 (c3 (lt 3 2) 6 4)^s [(6,10)])^s [(7,b .sub 7 (i 1))])))^s [(3,5)]^r
def IF:Stm:=
 (h 2 .box (c1 0)^s [(4,i 0),(3,.cst u)])^(h 14 (.bSl [z] 1 [0]) (c1 (i 1))^h 15 (.bSl [z] 1 [0]) (c1 (i 1))^s [(6,15),(5,14)])^s [(9,i 1),(8,i 1),(7,
 i 0)]^(s [(10,i 0)]^bk 0 (lo (k (b .lss 10 (ln 1)) e (xt 0)^bk 1 (s [(11,i 0)]^(s [(12,i 0)]^bk 2 (lo (k (b .leq 12 7) e (xt 2)^bk 3 (hh [(20,ld (ia 1 1
 (b .sub 10 12))),(18,lt 3 2),(17,11),(16,lt 3 2)] 19 (.call true) (c3 (fn 174) 5 12)^h 21 (.call true) (c (fn 69) (c3 18 19 20))^h 22 .callC (c (fn 67)
 (c3 16 17 21))^s [(11,22)])^s [(12,ad 12 (i 1))])))^kq (b .eql 11 (i 0)) (s [(8,ad 8 (i 1))]^xt 1)^(hh [(30,8),(27,11),(26,lt 3 2),(25,6),(24,5),
 (23,lt 3 2)] 28 (.call true) (c3 (fn 126) (lt 3 2) 9)^h 29 (.call true) (c (fn 69) (c3 26 27 28))^h 31 .callC (c (fn 175) (c 23 (c 24 (c3 25 29 30))))^s
 [(13,31)])^k (b .leq (b .mul (i 2) 7) 10) (s [(6,5)]^s [(7,b .sub (ad 10 (i 1)) 7)]^s [(9,11)]^s [(8,i 1)]) (s [(8,ad 8 (i 1))])^s [(5,13)])^s [(10,ad
 10 (i 1))])))^bk 4 (lo (k (b .eql (ld (ia 1 5 (b .sub (ln 5) (i 1)))) (i 0)) e (xt 4)^bk 5 (s [(5,n2 (.sl 1 false true false) 5 (b .sub (ln 5) (i 1)))])))^s
 [(4,7),(3,5)]^r
def IG:Stm:=
 (h 3 .box (c1 0)^s [(4,i 0)])^s [(5,i 0)]^(s [(6,b .sub (ln 1) (i 1))]^bk 0 (lo (k (b .geq 6 (i 0)) e (xt 0)^bk 1 (hh [(9,ld (ia 1 1 6)),(7,lt 3 3)] 8
 (.call true) (c (fn 69) (c3 (lt 3 3) 5 2))^h 10 .callC (c (fn 67) (c3 7 8 9))^s [(5,10)])^s [(6,b .sub 6 (i 1))])))^s [(4,5)]^r
def IH:Stm:=
 (h 2 .box (c1 0)^s [(3,i 0)])^(cl 4 160 (c3 (lt 3 2) 1 (b .sub (lf 1 2) (i 2)))^s [(3,4)])^r
def II:Stm:=
 (h 4 .box (c1 0)^s [(5,.cst u)])^(h 14 (.bSl [z] 1 [0]) (c1 (i 1))^s [(6,14)])^(s [(7,i 0)]^bk 0 (lo (k (b .lss 7 (ln 2)) e (xt 0)^bk 1 (hh [(19,ad (ln 6)
 (i 1)),(16,6),(15,lt 3 4)] 17 (.call true) (c (fn 68) (c3 (lt 3 4) (i 0) (ld (ia 1 2 7))))^h 18 (.bSl [z] 2 [0,1]) (c2 (i 1) 17)^h 20 .callC (c (fn 112)
 (c 15 (c3 16 18 19)))^s [(6,20)])^s [(7,ad 7 (i 1))])))^(cl 21 112 (c (lt 3 4) (c3 1 6 (ln 1)))^s [(8,21)])^s [(9,.cst u)]^(s [(10,i 0)]^bk 2 (lo (k (b
 .lss 10 (ln 2)) e (xt 2)^bk 3 ((h 22 .callC (c3 (fn 126) (lt 3 4) (ld (ia 1 2 10)))^s [(11,22)])^(h 23 .callC (c (fn 160) (c3 (lt 3 4) (ld (ia 1 2 10)) 3))^s
 [(12,23)])^(s [(13,i 0)]^bk 4 (lo (k (b .lss 13 (ln 2)) e (xt 4)^bk 5 (kq (b .neq 13 10) (hh [(26,lt 3 4),(25,12),(24,lt 3 4)] 27 (.call true) (c (fn
 69) (c3 (lt 3 4) (ld (ia 1 2 13)) 11))^h 28 (.call true) (c (fn 68) (c3 26 (i 1) 27))^h 29 .callC (c (fn 69) (c3 24 25 28))^s [(12,29)]))^s [(13,ad 13 (i
 1))])))^hh [(34,12),(33,lt 3 4),(31,lt 3 4),(30,9)] 32 (.call true) (c (fn 125) (c3 (lt 3 4) 8 11))^h 35 (.call true) (c3 (fn 126) 33 34)^h 36 .callC
 (c (fn 69) (c3 31 32 35))^h 37 (.bSl [z] 1 [0]) (c1 36)^h 38 (.app 1 [z]) (c2 30 37)^s [(9,38)])^s [(10,ad 10 (i 1))])))^s [(5,9)]^r
def J5:List Nat:=[0,1,4,5,6,7,8,10,11,12,15,19,23,24,28,29,30,33,36]
def J6:List Nat:=[0,1,2,6,7,9,13,14,15,18,21,30,35,44]
def IJ:Stm:=
 s [(1,i 0)]^s [(1,ad (b .rem (b .mul (i 149) (ad 0 (i 1))) (i 255)) (i 1))]^r
def IK:Stm:=
 s [(2,.cst u)]^kq (b .lss 1 (i 0)) (v .pan (c1 (n1 (.mkI 9) (.cst (.string ⟨ #[99,97,110,110,111,116,32,98,101,32,110,101,103,97,116,105,118,
 101] ⟩)))))^(cl 7 179 (c2 (n1 (.cvt .u64) (ln 0)) (n1 (.cvt .u64) 1))^s [(4,ix 1 7),(3,ix 0 7)])^kq (p (b .gtr 3 (.cst (.int .u64 0))) t (b .gtr 4 (.cst
 (.int .u64 9223372036854775807)))) (v .pan (c1 (n1 (.mkI 9) (.cst (.string Qx)))))^(h 8 (.mkSl [z]) (c2 (n1 (.cvt .i64) 4) (n1 (.cvt .i64) 4))^s [(5,
 8)])^(h 9 (.cpy 1) (c2 5 0)^s [(6,9)])^bk 0 (lo (k (b .lss 6 (ln 5)) e (xt 0)^bk 1 (hh [(10,6)] 11 (.cpy 1) (c2 (n2 (.sl 1 true false false) 5 6) (n2 (.sl 1
 false true false) 5 6))^s [(6,ad 10 11)])))^s [(2,5)]^r
def Nk:CF:=⟨2,12,[(.var 2)],IK,.plain⟩
def IL:Stm:=
 kq (b .lss 1 (i 0)) (s [(1,ad 1 (lf 0 (nk 0)))]^s [(2,ad 2 (b .sub (i 4) (b .rem (ad (lf 0 (nk 0)) (i 4)) (i 8))))])^kq (b .lss 2 (i 0)) (s [(2,ad 2 (lf 1
 (nk 0)))]^s [(1,ad 1 (b .sub (i 4) (b .rem (ad (lf 1 (nk 0)) (i 4)) (i 8))))])^w 1 (ia 1 (lf 2 (nk 0)) (ad (b .mul 1 (lf 1 (nk 0))) 2)) (ad (b .mul (i 8) (lf
 3 (nk 0))) 3)
def IM:Stm:=
 s [(5,lf 1 (nk 0)),(4,lf 0 (nk 0))]^kq (p (b .eql 1 4) (b .eql 2 (i 0)) f) (v (.call false) (c (fn 180) (c3 0 (.node (.build [z,z,z,z,z,z,z,z,z,z,
 z,z,z,z,z,z] [(0,2),(2,2),(4,2),(6,2),(8,2),(10,2),(12,2),(14,2)]) (c (n2 (.build [z,z] [(0,1),(1,1)]) (b .sub 4 (i 1)) (i 0)) (c (n2
 (.build [z,z] [(0,1),(1,1)]) (b .sub 4 (i 1)) (i 1)) (c (n2 (.build [z,z] [(0,1),(1,1)]) (b .sub 4 (i 1)) (i 2)) (c (n2 (.build [z,z] [(0,1),(1,
 1)]) (i 0) (b .sub 5 (i 2))) (c (n2 (.build [z,z] [(0,1),(1,1)]) (i 0) (b .sub 5 (i 1))) (c3 (n2 (.build [z,z] [(0,1),(1,1)]) (i 1) (b .sub 5 (i 1)))
 (n2 (.build [z,z] [(0,1),(1,1)]) (i 2) (b .sub 5 (i 1))) (n2 (.build [z,z] [(0,1),(1,1)]) (i 3) (b .sub 5 (i 1)))))))))) 3)))^kq (p (p (b .eql 1 (b
 .sub 4 (i 2))) (b .eql 2 (i 0)) f) (b .neq (b .rem 5 (i 4)) (i 0)) f) (v (.call false) (c (fn 180) (c3 0 (.node (.build [z,z,z,z,z,z,z,z,z,z,z,z,
 z,z,z,z] [(0,2),(2,2),(4,2),(6,2),(8,2),(10,2),(12,2),(14,2)]) (c (n2 (.build [z,z] [(0,1),(1,1)]) (b .sub 4 (i 3)) (i 0)) (c (n2
 (.build [z,z] [(0,1),(1,1)]) (b .sub 4 (i 2)) (i 0)) (c (n2 (.build [z,z] [(0,1),(1,1)]) (b .sub 4 (i 1)) (i 0)) (c (n2 (.build [z,z] [(0,1),(1,
 1)]) (i 0) (b .sub 5 (i 4))) (c (n2 (.build [z,z] [(0,1),(1,1)]) (i 0) (b .sub 5 (i 3))) (c3 (n2 (.build [z,z] [(0,1),(1,1)]) (i 0) (b .sub 5 (i 2)))
 (n2 (.build [z,z] [(0,1),(1,1)]) (i 0) (b .sub 5 (i 1))) (n2 (.build [z,z] [(0,1),(1,1)]) (i 1) (b .sub 5 (i 1)))))))))) 3)))^kq (p (p (b .eql 1 (b
 .sub 4 (i 2))) (b .eql 2 (i 0)) f) (b .eql (b .rem 5 (i 8)) (i 4)) f) (v (.call false) (c (fn 180) (c3 0 (.node (.build [z,z,z,z,z,z,z,z,z,z,z,z,
 z,z,z,z] [(0,2),(2,2),(4,2),(6,2),(8,2),(10,2),(12,2),(14,2)]) (c (n2 (.build [z,z] [(0,1),(1,1)]) (b .sub 4 (i 3)) (i 0)) (c (n2
 (.build [z,z] [(0,1),(1,1)]) (b .sub 4 (i 2)) (i 0)) (c (n2 (.build [z,z] [(0,1),(1,1)]) (b .sub 4 (i 1)) (i 0)) (c (n2 (.build [z,z] [(0,1),(1,
 1)]) (i 0) (b .sub 5 (i 2))) (c (n2 (.build [z,z] [(0,1),(1,1)]) (i 0) (b .sub 5 (i 1))) (c3 (n2 (.build [z,z] [(0,1),(1,1)]) (i 1) (b .sub 5 (i 1)))
 (n2 (.build [z,z] [(0,1),(1,1)]) (i 2) (b .sub 5 (i 1))) (n2 (.build [z,z] [(0,1),(1,1)]) (i 3) (b .sub 5 (i 1)))))))))) 3)))^kq (p (p (b .eql 1 (ad 4
 (i 4))) (b .eql 2 (i 2)) f) (b .eql (b .rem 5 (i 8)) (i 0)) f) (v (.call false) (c (fn 180) (c3 0 (.node (.build [z,z,z,z,z,z,z,z,z,z,z,z,z,z,z,
 z] [(0,2),(2,2),(4,2),(6,2),(8,2),(10,2),(12,2),(14,2)]) (c (n2 (.build [z,z] [(0,1),(1,1)]) (b .sub 4 (i 1)) (i 0)) (c (n2 (.build [z,z]
 [(0,1),(1,1)]) (b .sub 4 (i 1)) (b .sub 5 (i 1))) (c (n2 (.build [z,z] [(0,1),(1,1)]) (i 0) (b .sub 5 (i 3))) (c (n2 (.build [z,z] [(0,1),(1,1)])
 (i 0) (b .sub 5 (i 2))) (c (n2 (.build [z,z] [(0,1),(1,1)]) (i 0) (b .sub 5 (i 1))) (c3 (n2 (.build [z,z] [(0,1),(1,1)]) (i 1) (b .sub 5 (i 3))) (n2
 (.build [z,z] [(0,1),(1,1)]) (i 1) (b .sub 5 (i 2))) (n2 (.build [z,z] [(0,1),(1,1)]) (i 1) (b .sub 5 (i 1)))))))))) 3)))
def IN:Stm:=
 s [(3,f)]^s [(3,p (p (p (p (b .geq 1 (i 0)) (b .lss 1 (lf 0 (nk 0))) f) (b .geq 2 (i 0)) f) (b .lss 2 (lf 1 (nk 0))) f) (b .lss (ld (ia 1 (lf 2 (nk 0)) (ad (b
 .mul 1 (lf 1 (nk 0))) 2))) (i 0)) f)]^r
def IP:Stm:=
 v (.call false) (c (fn 180) (c3 0 (.node (.build [z,z,z,z,z,z,z,z,z,z,z,z,z,z,z,z] [(0,2),(2,2),(4,2),(6,2),(8,2),(10,2),(12,2),
 (14,2)]) (c (n2 (.build [z,z] [(0,1),(1,1)]) (b .sub 1 (i 2)) (b .sub 2 (i 2))) (c (n2 (.build [z,z] [(0,1),(1,1)]) (b .sub 1 (i 2)) (b .sub 2 (i
 1))) (c (n2 (.build [z,z] [(0,1),(1,1)]) (b .sub 1 (i 1)) (b .sub 2 (i 2))) (c (n2 (.build [z,z] [(0,1),(1,1)]) (b .sub 1 (i 1)) (b .sub 2 (i 1))) (c
 (n2 (.build [z,z] [(0,1),(1,1)]) (b .sub 1 (i 1)) 2) (c3 (n2 (.build [z,z] [(0,1),(1,1)]) 1 (b .sub 2 (i 2))) (n2 (.build [z,z] [(0,1),(1,1)]) 1
 (b .sub 2 (i 1))) (n2 (.build [z,z] [(0,1),(1,1)]) 1 2)))))))) 3))
def IQ:Stm:=
 s [(3,lf 0 (nk 0))]^s [(4,lf 1 (nk 0))]^kq (p (b .eql 1 3) (b .eql 2 (i 0)) f) (v (.call false) (c3 (fn 181) 0 (.node (.build [z,z,z,z,z,z,z,z,z,z,
 z,z,z,z,z,z] [(0,1),(1,1),(2,1),(3,1),(4,1),(5,1),(6,1),(7,1),(8,1),(9,1),(10,1),(11,1),(12,1),(13,1),(14,1),(15,1)]) (c
 (b .sub 3 (i 1)) (c (i 0) (c (b .sub 3 (i 1)) (c (i 1) (c (b .sub 3 (i 1)) (c (i 2) (c (i 0) (c (b .sub 4 (i 2)) (c (i 0) (c (b .sub 4 (i 1)) (c (i 1) (c (b
 .sub 4 (i 1)) (c (i 2) (c3 (b .sub 4 (i 1)) (i 3) (b .sub 4 (i 1)))))))))))))))))))^kq (p (p (b .eql 1 (b .sub 3 (i 2))) (b .eql 2 (i 0)) f) (b .neq (b .rem 4
 (i 4)) (i 0)) f) (v (.call false) (c3 (fn 181) 0 (.node (.build [z,z,z,z,z,z,z,z,z,z,z,z,z,z,z,z] [(0,1),(1,1),(2,1),(3,1),(4,1),(5,
 1),(6,1),(7,1),(8,1),(9,1),(10,1),(11,1),(12,1),(13,1),(14,1),(15,1)]) (c (b .sub 3 (i 3)) (c (i 0) (c (b .sub 3 (i 2)) (c (i 0) (c (b
 .sub 3 (i 1)) (c (i 0) (c (i 0) (c (b .sub 4 (i 4)) (c (i 0) (c (b .sub 4 (i 3)) (c (i 0) (c (b .sub 4 (i 2)) (c (i 0) (c3 (b .sub 4 (i 1)) (i 1) (b .sub 4 (i
 1)))))))))))))))))))^kq (p (p (b .eql 1 (b .sub 3 (i 2))) (b .eql 2 (i 0)) f) (b .eql (b .rem 4 (i 8)) (i 4)) f) (v (.call false) (c3 (fn 181) 0 (.node
 (.build [z,z,z,z,z,z,z,z,z,z,z,z,z,z,z,z] [(0,1),(1,1),(2,1),(3,1),(4,1),(5,1),(6,1),(7,1),(8,1),(9,1),(10,1),(11,1),
 (12,1),(13,1),(14,1),(15,1)]) (c (b .sub 3 (i 3)) (c (i 0) (c (b .sub 3 (i 2)) (c (i 0) (c (b .sub 3 (i 1)) (c (i 0) (c (i 0) (c (b .sub 4 (i 2)) (c (i
 0) (c (b .sub 4 (i 1)) (c (i 1) (c (b .sub 4 (i 1)) (c (i 2) (c3 (b .sub 4 (i 1)) (i 3) (b .sub 4 (i 1)))))))))))))))))))^kq (p (p (b .eql 1 (ad 3 (i 4))) (b
 .eql 2 (i 2)) f) (b .eql (b .rem 4 (i 8)) (i 0)) f) (v (.call false) (c3 (fn 181) 0 (.node (.build [z,z,z,z,z,z,z,z,z,z,z,z,z,z,z,z] [(0,1),
 (1,1),(2,1),(3,1),(4,1),(5,1),(6,1),(7,1),(8,1),(9,1),(10,1),(11,1),(12,1),(13,1),(14,1),(15,1)]) (c (b .sub 3 (i 1)) (c (i 0) (c
 (b .sub 3 (i 1)) (c (b .sub 4 (i 1)) (c (i 0) (c (b .sub 4 (i 3)) (c (i 0) (c (b .sub 4 (i 2)) (c (i 0) (c (b .sub 4 (i 1)) (c (i 1) (c (b .sub 4 (i 3)) (c (i
 1) (c3 (b .sub 4 (i 2)) (i 1) (b .sub 4 (i 1)))))))))))))))))))
def IS:Stm:=
 kq (p (p (p (p (b .lss 1 (i 0)) t (b .geq 1 (lf 0 (nk 0)))) t (b .lss 2 (i 0))) t (b .geq 2 (lf 1 (nk 0)))) t (b .geq (ld (ia 1 (lf 3 (nk 0)) (ad (b .mul 1 (lf
 1 (nk 0))) 2))) (i 0))) r^v (.call false) (c3 (fn 181) 0 (.node (.build [z,z,z,z,z,z,z,z,z,z,z,z,z,z,z,z] [(0,1),(1,1),(2,1),(3,1),(4,
 1),(5,1),(6,1),(7,1),(8,1),(9,1),(10,1),(11,1),(12,1),(13,1),(14,1),(15,1)]) (c (b .sub 1 (i 2)) (c (b .sub 2 (i 2)) (c (b .sub 1 (i 2))
 (c (b .sub 2 (i 1)) (c (b .sub 1 (i 1)) (c (b .sub 2 (i 2)) (c (b .sub 1 (i 1)) (c (b .sub 2 (i 1)) (c (b .sub 1 (i 1)) (c 2 (c 1 (c (b .sub 2 (i 2)) (c 1 (c3
 (b .sub 2 (i 1)) 1 2))))))))))))))))
def IT:Stm:=
 s [(1,i 0)]^kq (b .geq (lf 1 (nk 0)) (ln (lf 0 (nk 0)))) (s [(1,i 10)]^r)^s [(2,ld (ia 1 (lf 0 (nk 0)) (lf 1 (nk 0))))]^kq (p (b .lss 2 (i 1)) t (b .gtr 2 (i
 128))) (s [(1,i 22)]^r)^w 1 (fa 1 (nk 0)) (ad (lf 1 (nk 0)) (i 1))^(hh [(4,lf 2 (nk 0)),(3,0)] 5 (.bSl [.int .u8 0] 1 [0]) (c1 (n1 (.cvt .u8) (ad 2 (i
 127))))^h 6 (.app 1 [.int .u8 0]) (c2 4 5)^w 1 (fa 2 (nk 3)) 6)^s [(1,i 0)]^r
def IU:Stm:=
 s [(2,i 0)]^s [(4,f),(3,i 0)]^bk 0 (lo (bk 1 ((cl 11 182 (c1 0)^hh [(14,ix 2 11),(13,ix 1 11),(12,ix 0 11)] 5 (.alloc [z,z,z]) .nil^w 3 5 12^s [(7,
 14),(6,13)])^kq (p (b .neq 7 (i 0)) t 6) (s [(2,7)]^r)^s [(16,i 0),(15,lt 3 5)]^bk 2 (lo (k (b .lss 16 (i 3)) e (xt 2)^bk 3 (s [(8,n2 (.idx 3 1 false)
 15 16)]^kq (p (b .eql 3 (i 0)) (b .leq 8 (i 2)) f) (s [(3,ad 8 (i 1))]^xt 3)^kq (p (p (b .eql 3 (i 2)) (b .eql 8 (i 30)) f) (n1 (.un .not) 4) f) (s [(4,t),
 (3,i 0)]^xt 3)^(cl 17 183 (c3 1 3 8)^s [(10,ix 1 17),(9,ix 0 17)])^kq (n1 (.un .not) 10) (s [(2,i 22)]^r)^kq 4 (s [(9,ad 9 (.cst (.int .u8 128)))])^(hh
 [(19,lf 2 (nk 0)),(18,0)] 20 (.bSl [.int .u8 0] 1 [0]) (c1 9)^h 21 (.app 1 [.int .u8 0]) (c2 19 20)^w 1 (fa 2 (nk 18)) 21)^s [(4,f),(3,i 0)])^s [(16,ad
 16 (i 1))])))))
def IV:Stm:=
 s [(1,i 0)]^(cl 8 184 (c1 0)^s [(3,ix 1 8),(2,ix 0 8)])^kq (n1 (.un .not) 3) (s [(1,i 10)]^r)^kq (b .eql 2 (i 0)) (s [(1,i 22)]^r)^kq (b .geq 2 (i 250))
 ((cl 9 184 (c1 0)^s [(5,ix 1 9),(4,ix 0 9)])^kq (n1 (.un .not) 5) (s [(1,i 10)]^r)^kq (b .geq 4 (i 250)) (s [(1,i 22)]^r)^s [(2,ad (b .mul (i 250) (b
 .sub 2 (i 249))) 4)])^(s [(11,i 0),(10,2)]^bk 0 (lo (k (b .lss 11 10) e (xt 0)^bk 1 ((cl 12 184 (c1 0)^s [(7,ix 1 12),(6,ix 0 12)])^kq (n1 (.un .not) 7)
 (s [(1,i 10)]^r)^hh [(14,lf 2 (nk 0)),(13,0)] 15 (.bSl [.int .u8 0] 1 [0]) (c1 (n1 (.cvt .u8) 6))^h 16 (.app 1 [.int .u8 0]) (c2 14 15)^w 1 (fa 2 (nk 13))
 16)^s [(11,ad 11 (i 1))])))^s [(1,i 0)]^r
def IW:Stm:=
 s [(1,i 0)]^bk 0 (lo (bk 1 ((cl 6 182 (c1 0)^hh [(9,ix 2 6),(8,ix 1 6),(7,ix 0 6)] 2 (.alloc [z,z,z]) .nil^w 3 2 7^s [(4,9),(3,8)])^kq (p (b .neq 4
 (i 0)) t 3) (s [(1,4)]^r)^s [(11,i 0),(10,lt 3 2)]^bk 2 (lo (k (b .lss 11 (i 3)) e (xt 2)^bk 3 (s [(5,n2 (.idx 3 1 false) 10 11)]^hh [(13,lf 2 (nk 0)),
 (12,0)] 14 (.call true) (c2 (fn 185) 5)^h 15 (.bSl [.int .u8 0] 1 [0]) (c1 14)^h 16 (.app 1 [.int .u8 0]) (c2 13 15)^w 1 (fa 2 (nk 12)) 16)^s [(11,ad 11 (i
 1))])))))
def IX:Stm:=
 s [(1,i 0)]^s [(2,i 0)]^bk 0 (lo (bk 1 (s [(4,ad (lf 1 (nk 0)) (b .quo (ad 2 (i 5)) (i 8))),(3,ad (lf 1 (nk 0)) (b .quo 2 (i 8)))]^kq (b .geq 4 (ln (lf 0
 (nk 0)))) (s [(1,i 10)]^r)^s [(5,b .shl (ld (ia 1 (lf 0 (nk 0)) 3)) (.cst (.int .u64 8)))]^kq (b .gtr 4 3) (s [(5,b .or 5 (ld (ia 1 (lf 0 (nk 0)) 4)))])^s
 [(6,b .and (b .shr 5 (b .sub (i 10) (b .rem 2 (i 8)))) (i 63))]^kq (b .eql 6 (i 31)) (s [(7,b .rem (b .sub (i 8) (b .rem (ad 2 (i 6)) (i 8))) (i 8))]^kq (b
 .neq (b .and (ld (ia 1 (lf 0 (nk 0)) 4)) (b .sub (b .shl (i 1) 7) (i 1))) (i 0)) (s [(1,i 22)]^r)^w 1 (fa 1 (nk 0)) (ad 4 (i 1))^s [(1,i 0)]^r)^kq (b .lss 6
 (i 32)) (s [(6,ad 6 (i 64))])^hh [(9,lf 2 (nk 0)),(8,0)] 10 (.bSl [.int .u8 0] 1 [0]) (c1 (n1 (.cvt .u8) 6))^h 11 (.app 1 [.int .u8 0]) (c2 9 10)^w 1 (fa
 2 (nk 8)) 11)^s [(2,ad 2 (i 6))]))
def IY:Stm:=
 (h 2 .box (c1 1)^h 3 (.alloc [z,z,z,.bool false,u,.bool false]) .nil^s [(4,i 0)])^kq (b .geq (lf 0 2) (ln 0)) ((w 6 3 (lt 6 2)^s [(4,i 10)])^r)^(h 8
 .callC (c3 (fn 186) (ld (ia 1 0 (lf 0 2))) (ad (lf 0 2) (i 1)))^s [(5,8)])^w 1 (fa 0 2) (ad (lf 0 2) (i 1))^kq (b .eql 5 (i 0)) ((w 6 3 (lt 6 2)^s [(4,i
 22)])^r)^kq (b .geq 5 (i 250)) (kq (b .geq (lf 0 2) (ln 0)) ((w 6 3 (lt 6 2)^s [(4,i 10)])^r)^(h 9 .callC (c3 (fn 186) (ld (ia 1 0 (lf 0 2))) (ad (lf 0 2) (i
 1)))^s [(6,9)])^w 1 (fa 0 2) (ad (lf 0 2) (i 1))^kq (b .gtr 6 (i 249)) ((w 6 3 (lt 6 2)^s [(4,i 22)])^r)^s [(5,ad (b .mul (i 250) (b .sub 5 (i 249)))
 6)])^(s [(7,i 0)]^bk 0 (lo (k (b .lss 7 5) e (xt 0)^bk 1 (kq (b .geq (lf 0 2) (ln 0)) ((w 6 3 (lt 6 2)^s [(4,i 10)])^r)^(hh [(10,lf 4 2)] 11 (.call true)
 (c3 (fn 186) (ld (ia 1 0 (lf 0 2))) (ad (lf 0 2) (i 1)))^h 12 (.bSl [.int .u8 0] 1 [0]) (c1 (n1 (.cvt .u8) 11))^h 13 (.app 1 [.int .u8 0]) (c2 10 12)^w 1 (fa
 4 2) 13)^w 1 (fa 0 2) (ad (lf 0 2) (i 1)))^s [(7,ad 7 (i 1))])))^(w 6 3 (lt 6 2)^s [(4,i 0)])^r
def J7:List Nat:=[0,2,5,10]
def IZ:Stm:=
 (h 2 .box (c1 0)^h 3 (.alloc [z,z,z,.bool false,u,.bool false]) .nil^s [(4,i 0)])^(cl 6 187 (c3 (lf 1 2) (lf 2 2) 1)^s [(5,6)])^bk 0 (k (p (b .eql (lf 2
 2) (i 0)) (b .lss 1 (i 3)) f) (w 1 (fa 2 2) (ad 1 (i 1))^(w 6 3 (lt 6 2)^s [(4,i 0)])^r) (k (p (p (b .eql (lf 2 2) (i 2)) (b .eql 1 (i 30)) f) (n1 (.un .not)
 (lf 3 2)) f) (w 1 (fa 2 2) (i 0)^w 1 (fa 3 2) t^(w 6 3 (lt 6 2)^s [(4,i 0)])^r) (kq (b .lss 5 (i 0)) ((w 6 3 (lt 6 2)^s [(4,i 22)])^r))))^kq (lf 3 2) (s
 [(5,ad 5 (i 128))])^(hh [(7,lf 4 2)] 8 (.bSl [.int .u8 0] 1 [0]) (c1 (n1 (.cvt .u8) 5))^h 9 (.app 1 [.int .u8 0]) (c2 7 8)^w 1 (fa 4 2) 9)^w 1 (fa 2 2) (i
 0)^w 1 (fa 3 2) f^(w 6 3 (lt 6 2)^s [(4,i 0)])^r
def I0:Stm:=
 s [(1,f)]^(s [(2,i 2)]^bk 0 (lo (k (b .leq (b .mul 2 2) 0) e (xt 0)^bk 1 (kq (b .eql (b .rem 0 2) (i 0)) (s [(1,f)]^r))^s [(2,ad 2 (i 1))])))^s [(1,t)]^r
def I1:Stm:=
 s [(1,i 0)]^(cl 2 189 (c1 (n1 (.cvt .u64) 0))^s [(1,b .sub 2 (i 1))])^r
def I2:Stm:=
 s [(1,f)]^(s [(2,i 2)]^bk 0 (lo ((cl 3 149 (c1 2)^hh [(4,b .mul (i 2) 3)] 5 (.call false) (c2 (fn 149) 0)^k (b .leq 4 5) e (xt 0))^bk 1 (cl 6 190 (c2 0 2)^kq
 (b .eql 6 (i 0)) (s [(1,f)]^r))^s [(2,ad 2 (i 1))])))^s [(1,t)]^r
def J8:List Nat:=[0,1,2,4,6,7,8,9]
def J9:List Nat:=[0,1,2,3,4,8,9,10,11,15,19,20,21,26,27,28,32,36,37]
def Ja:List Nat:=[0,1,2,3,6]
def Jb:List Nat:=[0,1,2,3,6]
def Jc:List Nat:=[0,1,2,3,6]
def Bq:Stm:=
 s [(1,i 0)]^s [(2,i (-1))]^bk 0 (lo (k (b .gtr 0 (i 0)) e (xt 0)^bk 1 (s [(0,b .quo 0 (i 2))]^s [(2,ad 2 (i 1))])))^s [(1,2)]^r
def I3:Stm:=
 s [(2,f)]^(Stm.hv [(4,b .lss 0 (i 0))] [] [(b .lss 0 (i 0),false)] (some 5) (.call false) (c2 (fn 156) 0)^kq (p 4 t (b .neq 5 1)) (s [(2,f)]^r))^(s [(3,i
 2)]^bk 0 (lo ((cl 6 156 (c1 3)^k (b .leq (b .mul (i 2) 6) 1) e (xt 0))^bk 1 (cl 7 113 (c2 0 3)^kq (b .eql 7 (i 0)) (s [(2,f)]^r))^s [(3,ad 3 (i 1))])))^s
 [(2,t)]^r
def I4:Stm:=
 s [(1,f)]^(s [(2,i 2)]^bk 0 (lo (k (b .leq (b .mul 2 2) 0) e (xt 0)^bk 1 (kq (b .eql (b .rem 0 2) (i 0)) (s [(1,f)]^r))^s [(2,ad 2 (i 1))])))^s [(1,b .geq
 0 (i 2))]^r
def I5:Stm:=
 (h 1 .box (c1 0)^s [(2,i 0)])^(s [(3,i 1)]^bk 0 (lo (k (b .lss 3 (lf 1 1)) e (xt 0)^bk 1 (hh [(5,b .sub (lf 1 1) (i 1))] 4 (.call true) (c3 (fn 191) (lt 3 1)
 3)^kq (b .eql 4 5) (s [(2,3)]^r))^s [(3,ad 3 (i 1))])))^s [(2,i 0)]^r
def I6:Stm:=
 (h 3 .box (c1 0)^s [(4,i 0)])^s [(5,i 1)]^bk 0 (lo (k (b .gtr 2 (i 0)) e (xt 0)^bk 1 (kq (b .eql (b .rem 2 (i 2)) (i 1)) (cl 6 69 (c3 (lt 3 3) 5 1)^s [(5,
 6)])^(cl 7 69 (c3 (lt 3 3) 1 1)^s [(1,7)])^s [(2,b .quo 2 (i 2))])))^s [(4,5)]^r
def I7:Stm:=
 (h 1 .box (c1 0)^s [(2,i 0)])^s [(3,i 1)]^bk 0 (lo ((hh [(5,b .sub (lf 1 1) (i 1))] 4 (.call true) (c3 (fn 192) (lt 3 1) 3)^k (b .neq 4 5) e (xt 0))^bk 1 (s
 [(3,ad 3 (i 1))])))^s [(2,3)]^r
def I8:Stm:=
 (h 3 .box (c1 0)^s [(4,i 0)])^kq (b .eql (lf 2 3) (i 0)) (s [(4,b .rem (b .mul 1 2) (lf 1 3))]^r)^s [(5,i 0)]^bk 0 (lo (k (b .gtr 2 (i 0)) e (xt 0)^bk 1 (kq
 (b .eql (b .and 2 (i 1)) (i 1)) (s [(5,b .xor 5 1)])^s [(1,b .shl 1 (.cst (.int .u64 1)))]^kq (b .geq 1 (lf 1 3)) (s [(1,b .xor 1 (lf 2 3))]))^s [(2,b
 .shr 2 (.cst (.int .u64 1)))]))^s [(4,5)]^r
def I9:Stm:=
 (h 3 .box (c1 0)^h 4 .box (c1 1)^s [(5,.cst u)])^(h 10 (.mkSl [z]) (c2 (lf 3 4) (lf 3 4))^s [(6,10)])^(s [(12,i 0),(11,ln 6)]^bk 0 (lo (k (b .lss 12 11) e
 (xt 0)^bk 1 (s [(7,12)]^(cl 13 103 (c2 (lt 4 3) (ad (lf 4 4) 7))^s [(8,13)])^s [(16,i 0),(15,ln 2),(14,2)]^bk 2 (lo (k (b .lss 16 15) e (xt 2)^bk 3 (s
 [(9,ld (ia 1 14 16))]^hh [(21,9),(19,lt 4 3),(18,7),(17,6)] 20 (.call true) (c (fn 170) (c3 (lt 4 3) (ld (ia 1 6 7)) 8))^h 22 .callC (c (fn 171) (c3
 19 20 21))^w 1 (ia 1 17 18) 22)^s [(16,ad 16 (i 1))])))^s [(12,ad 12 (i 1))])))^s [(5,6)]^r
def Ia:Stm:=
 (h 5 .box (c1 0)^s [(6,.cst u)])^(h 10 (.mkSl [z]) (c2 (n2 (.minmax true) (ln 1) (ad (ln 2) 3)) (n2 (.minmax true) (ln 1) (ad (ln 2) 3)))^s [(7,10)])^v (.cpy
 1) (c2 7 1)^(s [(13,i 0),(12,ln 2),(11,2)]^bk 0 (lo (k (b .lss 13 12) e (xt 0)^bk 1 (s [(9,ld (ia 1 11 13)),(8,13)]^hh [(17,ld (ia 1 7 (ad 8 3))),
 (16,lt 4 5),(15,ad 8 3),(14,7)] 18 (.call true) (c (fn 170) (c3 (lt 4 5) 4 9))^h 19 .callC (c (fn 193) (c3 16 17 18))^w 1 (ia 1 14 15) 19)^s [(13,ad 13
 (i 1))])))^s [(6,7)]^r
def Ib:Stm:=
 s [(2,i 0)]^s [(2,b .sub (b .sub (ln (lf 9 (nk 0))) (i 1)) 1)]^r
def Ic:Stm:=
 (h 4 .box (c1 0)^s [(5,.cst u)])^(h 10 (.mkSl [z]) (c2 3 3)^s [(6,10)])^(s [(13,i 0),(12,ln 1),(11,1)]^bk 0 (lo (k (b .lss 13 12) e (xt 0)^bk 1 (s [(8,
 ld (ia 1 11 13)),(7,13)]^s [(9,i 0)]^bk 2 (lo (k (p (b .lss 9 (ln 2)) (b .lss (ad 7 9) 3) f) e (xt 2)^bk 3 (hh [(17,ld (ia 1 6 (ad 7 9))),(16,lt 4 4),
 (15,ad 7 9),(14,6)] 18 (.call true) (c (fn 170) (c3 (lt 4 4) 8 (ld (ia 1 2 9))))^h 19 .callC (c (fn 171) (c3 16 17 18))^w 1 (ia 1 14 15) 19)^s [(9,ad 9 (i
 1))])))^s [(13,ad 13 (i 1))])))^s [(5,6)]^r
def Ie:Stm:=
 (h 2 .box (c1 0)^s [(3,.cst u)])^(h 14 (.bSl [z] 1 [0]) (c1 (i 1))^h 15 (.bSl [z] 1 [0]) (c1 (i 1))^s [(5,15),(4,14)])^s [(8,i 1),(7,i 1),(6,i 0)]^(s
 [(17,i 0),(16,ln 1)]^bk 0 (lo (k (b .lss 17 16) e (xt 0)^bk 1 (s [(9,17)]^s [(10,i 0)]^(s [(11,i 0)]^bk 2 (lo (k (p (b .leq 11 6) (b .lss 11 (ln 4)) f)
 e (xt 2)^bk 3 (hh [(19,10),(18,lt 4 2)] 20 (.call true) (c (fn 170) (c3 (lt 4 2) (ld (ia 1 4 11)) (ld (ia 1 1 (b .sub 9 11)))))^h 21 .callC (c (fn 171) (c3
 18 19 20))^s [(10,21)])^s [(11,ad 11 (i 1))])))^kq (b .eql 10 (i 0)) (s [(7,ad 7 (i 1))]^xt 1)^(hh [(25,7),(24,5),(23,4),(22,lt 4 2)] 26 (.call
 true) (c (fn 172) (c3 (lt 4 2) 10 8))^h 27 .callC (c (fn 164) (c 22 (c 23 (c3 24 25 26))))^s [(12,27)])^k (b .leq (b .mul (i 2) 6) 9) (s [(7,i 1),(8,10),
 (6,b .sub (ad 9 (i 1)) 6),(5,4)]) (s [(7,ad 7 (i 1))])^s [(4,12)])^s [(17,ad 17 (i 1))])))^s [(13,ln 4)]^bk 4 (lo (k (b .eql (ld (ia 1 4 (b .sub 13 (i
 1)))) (i 0)) e (xt 4)^bk 5 (s [(13,b .sub 13 (i 1))])))^s [(3,n2 (.sl 1 false true false) 4 13)]^r
def If:Stm:=
 (h 3 .box (c1 0)^s [(4,i 0)])^s [(5,i 0)]^(s [(6,b .sub (ln 1) (i 1))]^bk 0 (lo (k (b .geq 6 (i 0)) e (xt 0)^bk 1 (hh [(9,ld (ia 1 1 6)),(7,lt 4 3)] 8
 (.call true) (c (fn 170) (c3 (lt 4 3) 5 2))^h 10 .callC (c (fn 171) (c3 7 8 9))^s [(5,10)])^s [(6,b .sub 6 (i 1))])))^s [(4,5)]^r
def Ig:Stm:=
 (h 2 .box (c1 0)^s [(3,.cst u)])^s [(4,.cst u)]^(s [(5,i 1)]^bk 0 (lo (k (b .lss 5 (ln 1)) e (xt 0)^bk 1 (hh [(6,4)] 7 .callC (c (fn 170) (c3 (lt 4 2) (b
 .rem 5 (lf 0 2)) (ld (ia 1 1 5))))^h 8 (.bSl [z] 1 [0]) (c1 7)^h 9 (.app 1 [z]) (c2 6 8)^s [(4,9)])^s [(5,ad 5 (i 1))])))^s [(3,4)]^r
def Ih:Stm:=
 (h 3 .box (c1 0)^s [(4,i 0)])^kq (p (b .eql 1 (i 0)) t (b .eql 2 (i 0))) (s [(4,i 0)]^r)^s [(4,ld (ia 1 (lf 2 3) (b .rem (ad (ld (ia 1 (lf 3 3) 1)) (ld (ia 1
 (lf 3 3) 2))) (b .sub (lf 1 3) (i 1)))))]^r
def Ii:Stm:=
 (h 3 .box (c1 0)^s [(4,i 0)])^kq (b .eql (lf 0 3) (i 2)) (s [(4,b .xor 1 2)]^r)^s [(4,b .rem (ad 1 2) (lf 1 3))]^r
def Ij:Stm:=
 (h 3 .box (c1 0)^s [(4,i 0)])^kq (b .eql 1 (i 0)) (s [(4,i 0)]^r)^s [(4,ld (ia 1 (lf 2 3) (b .rem (b .sub (ad (b .sub (ld (ia 1 (lf 3 3) 1)) (ld (ia 1 (lf 3
 3) 2))) (lf 1 3)) (i 1)) (b .sub (lf 1 3) (i 1)))))]^r
def Ik:Stm:=
 (h 3 .box (c1 0)^s [(4,i 0)])^s [(5,i 0)]^(s [(6,i 0)]^bk 0 (lo (k (b .lss 6 (ln 1)) e (xt 0)^bk 1 (hh [(9,ld (ia 1 1 6)),(7,lt 3 3)] 8 (.call true) (c
 (fn 69) (c3 (lt 3 3) 5 2))^h 10 .callC (c (fn 67) (c3 7 8 9))^s [(5,10)])^s [(6,ad 6 (i 1))])))^s [(4,5)]^r
def Il:Stm:=
 s [(2,i 0)]^kq (b .lss 1 (ln 0)) (s [(2,ld (ia 1 0 1))]^r)^s [(2,i 0)]^r
def Im:Stm:=
 (h 5 .box (c1 0)^s [(6,.cst u)])^(h 10 (.mkSl [z]) (c2 (n2 (.minmax true) (ln 1) (ad (ln 2) 4)) (n2 (.minmax true) (ln 1) (ad (ln 2) 4)))^s [(7,10)])^(s [(8,
 i 0)]^bk 0 (lo (k (b .lss 8 (ln 7)) e (xt 0)^bk 1 (s [(9,i 0)]^kq (b .geq 8 4) (hh [(12,3),(11,lt 3 5)] 13 (.call true) (c3 (fn 174) 2 (b .sub 8 4))^h 14
 .callC (c (fn 69) (c3 11 12 13))^s [(9,14)])^hh [(19,9),(17,lt 3 5),(16,8),(15,7)] 18 (.call true) (c3 (fn 174) 1 8)^h 20 .callC (c (fn 68) (c3 17 18
 19))^w 1 (ia 1 15 16) 20)^s [(8,ad 8 (i 1))])))^s [(6,7)]^r
def Jd:List Nat:=[0,1,2,6,12,20,28,34,37]
def Je:List Nat:=[0,1,3,4,6,17]
def Jf:List Nat:=[0,1,4,5,6,7,8,9,10,11,26]
def Io:Stm:=
 (s [(3,.cst (.int .u64 0)),(2,.cst (.int .u64 0))]^kq f ((cl 8 200 (c2 (n1 (.cvt .u32) 0) (n1 (.cvt .u32) 1))^s [(5,ix 1 8),(4,ix 0 8)])^s [(3,n1 (.cvt
 .u64) 5),(2,n1 (.cvt .u64) 4)]^r))^(cl 9 201 (c2 0 1)^s [(7,ix 1 9),(6,ix 0 9)])^s [(3,7),(2,6)]^r
def Ip:Stm:=
 h 3 .box (c1 1)^(s [(7,i 0),(6,lt 16 3)]^bk 0 (lo (k (b .lss 7 (i 8)) e (xt 0)^bk 1 ((hh [(9,n2 (.idx 8 2 true) 6 7),(8,7)] 5 (.alloc [z,z]) .nil^Stm.hv
 [(4,8)] [] [] none (.st 2) (c2 5 9))^v (.call false) (c 2 (c3 (ld (n2 (.iAddrA 2 1) 5 (i 0))) (ld (n2 (.iAddrA 2 1) 5 (i 1))) 4)))^s [(7,ad 7 (i 1))])))^w 1
 (fa 3 (nk 0)) (ad (lf 3 (nk 0)) (i 1))
def Iq:Stm:=
 h 2 .box (c1 1)^(s [(3,i 0)]^bk 0 (lo (k (b .lss 3 (i 8)) e (xt 0)^bk 1 (v (.call false) (c (fn 202) (c 0 (c3 (ld (n2 (.iAddrA 16 1) 2 (b .mul (i 2) 3))) (ld
 (n2 (.iAddrA 16 1) 2 (ad (b .mul (i 2) 3) (i 1)))) 3))))^s [(3,ad 3 (i 1))])))^w 1 (fa 2 (nk 0)) (ad (lf 2 (nk 0)) (i 1))
def Ir:Stm:=
 (h 1 (.alloc [z,z,z]) .nil^s [(3,i 0),(2,f)])^kq (b .geq (lf 1 (nk 0)) (ln (lf 0 (nk 0)))) ((w 3 1 (lt 3 1)^s [(3,i 10),(2,f)])^r)^kq (b .eql (ld (ia 1
 (lf 0 (nk 0)) (lf 1 (nk 0)))) (i 254)) (w 1 (fa 1 (nk 0)) (ad (lf 1 (nk 0)) (i 1))^(w 3 1 (lt 3 1)^s [(3,i 0),(2,t)])^r)^kq (b .geq (ad (lf 1 (nk 0)) (i
 1)) (ln (lf 0 (nk 0)))) ((w 3 1 (lt 3 1)^s [(3,i 10),(2,f)])^r)^s [(4,b .sub (ad (b .mul (i 256) (ld (ia 1 (lf 0 (nk 0)) (lf 1 (nk 0))))) (ld (ia 1 (lf 0
 (nk 0)) (ad (lf 1 (nk 0)) (i 1))))) (i 1))]^kq (p (b .lss 4 (i 0)) t (b .geq 4 (i 64000))) ((w 3 1 (lt 3 1)^s [(3,i 22),(2,f)])^r)^w 1 (fa 1 (nk 0)) (ad
 (lf 1 (nk 0)) (i 2))^(w 3 1 (.node (.build [z,z,z] [(0,1),(1,1),(2,1)]) (c3 (b .quo 4 (i 1600)) (b .rem (b .quo 4 (i 40)) (i 40)) (b .rem 4 (i 40))))^s
 [(3,i 0),(2,f)])^r
def Jg:List Nat:=[0,1,2,6,7,8]
def Is:Stm:=
 s [(2,f),(1,i 0)]^kq (b .geq (lf 1 (nk 0)) (ln (lf 0 (nk 0)))) (s [(2,f),(1,i 0)]^r)^(hh [(4,ld (ia 1 (lf 0 (nk 0)) (lf 1 (nk 0))))] 5 (.call true) (c2
 (fn 130) (lf 1 (nk 0)))^s [(3,b .rem (ad (b .sub 4 5) (i 256)) (i 256))])^w 1 (fa 1 (nk 0)) (ad (lf 1 (nk 0)) (i 1))^s [(2,t),(1,3)]^r
def Jh:List Nat:=[0,2]
def It:Stm:=
 s [(2,i 0)]^s [(2,b .rem (b .sub (ad 0 (i 511)) (b .rem (b .mul (i 149) 1) (i 255))) (i 256))]^r
def Ji:List Nat:=[0,1,2,6]
def Iu:Stm:=
 (s [(1,i 0)]^kq f ((cl 2 203 (c1 (n1 (.cvt .u32) 0))^s [(1,2)])^r))^(cl 3 204 (c1 0)^s [(1,3)])^r
def Iv:Stm:=
 s [(2,i 0)]^bk 0 (lo ((cl 3 149 (c1 0)^cl 4 149 (c1 1)^k (b .geq 3 4) e (xt 0))^bk 1 (hh [(6,1),(5,0)] 7 (.call false) (c2 (fn 149) 0)^cl 8 149 (c1 1)^s
 [(0,b .xor 5 (b .shl 6 (b .sub 7 8)))])))^s [(2,0)]^r
def Iw:Stm:=
 (h 2 .box (c1 0)^s [(3,i 0)])^s [(5,1),(4,i 1)]^bk 0 (lo (k (p (b .neq 5 (i 1)) (b .lss 4 (lf 1 2)) f) e (xt 0)^bk 1 ((cl 6 69 (c3 (lt 3 2) 5 1)^s [(5,
 6)])^s [(4,ad 4 (i 1))])))^s [(3,4)]^r
def Ix:Stm:=
 (h 2 .box (c1 0)^s [(3,i 0)])^s [(4,i 1)]^(s [(5,1)]^bk 0 (lo (k (b .neq 5 (i 1)) e (xt 0)^bk 1 (s [(4,ad 4 (i 1))])^cl 6 162 (c3 (lt 3 2) 5 1)^s [(5,
 6)])))^s [(3,4)]^r
def Iy:Stm:=
 (h 3 .box (c1 0)^s [(4,i 0)])^kq (b .eql (lf 0 3) (i 2)) (s [(4,b .xor 1 2)]^r)^s [(4,b .rem (ad (b .sub 1 2) (lf 1 3)) (lf 1 3))]^r
def Jj:List Nat:=[0,1,4,5,6,7,8,21,38,45,46,47,54,55,59,63,65,69,80,87,88,89,92,93,94]
def Jk:List Nat:=[0,1,2,3,4,10,11,12,14,16,18,19,23,29,33,34,35,38,43,44,45,48,53,54,55,58,69,80,81,82]
def Jl:List Nat:=[0,1,4,5,6,7,11,21,24,34,42,51,52,53]
def Jm:List Nat:=[0,1,4,5,6,7,8,9,12,21,22,23,57,61,62,63]
def Jn:List Nat:=[0,1,2]
def Jo:List Nat:=[0,1,4,5,6,8,10]
def Jp:List Nat:=[0,1,4,5,6]
def Iz:Stm:=
 s [(3,.cst (.int .u64 0)),(2,.cst (.int .u64 0))]^s [(4,b .and 0 (.cst (.int .u64 4294967295)))]^s [(5,b .shr 0 (.cst (.int .u64 32)))]^s [(6,b .and 1
 (.cst (.int .u64 4294967295)))]^s [(7,b .shr 1 (.cst (.int .u64 32)))]^s [(8,b .mul 4 6)]^s [(9,ad (b .mul 5 6) (b .shr 8 (.cst (.int .u64 32))))]^s [(10,
 b .and 9 (.cst (.int .u64 4294967295)))]^s [(11,b .shr 9 (.cst (.int .u64 32)))]^s [(10,ad 10 (b .mul 4 7))]^s [(2,ad (ad (b .mul 5 7) 11) (b .shr 10 (.cst
 (.int .u64 32))))]^s [(3,b .mul 0 1)]^r
def JA:Stm:=
 kq (b .lss 1 (i 0)) (s [(1,ad 1 (lf 0 (nk 0)))]^s [(2,b .sub (ad 2 (i 4)) (b .rem (ad (lf 0 (nk 0)) (i 4)) (i 8)))])^kq (b .lss 2 (i 0)) (s [(2,ad 2 (lf 1
 (nk 0)))]^s [(1,b .sub (ad 1 (i 4)) (b .rem (ad (lf 1 (nk 0)) (i 4)) (i 8)))])^w 1 (ia 1 (lf 3 (nk 0)) (ad (b .mul 1 (lf 1 (nk 0))) 2)) (ad (b .mul (i 8) (lf
 2 (nk 0))) 3)
def Jq:List Nat:=[0,2]
def JB:Stm:=
 s [(1,i 0)]^kq (b .geq 0 (.cst (.int .u64 4294967296))) (s [(0,b .shr 0 (.cst (.int .u64 32)))]^s [(1,i 32)])^kq (b .geq 0 (.cst (.int .u64 65536))) (s [(0,
 b .shr 0 (.cst (.int .u64 16)))]^s [(1,ad 1 (i 16))])^kq (b .geq 0 (.cst (.int .u64 256))) (s [(0,b .shr 0 (.cst (.int .u64 8)))]^s [(1,ad 1 (i 8))])^s
 [(1,ad 1 (n1 (.cvt .i64) (n2 .idxS (.cst (.string GB)) (n1 (.cvt .u8) 0))))]^r
def Jr:List Nat:=[0,2]
def Js:List Nat:=[0,1,4,5,6,7,29,42,45,46,47,48]
def Jt:List Nat:=[0,1,2,4,6,7,8,9,10,11,15,18,28,29,51,65,72,73,82,87,88]
def Ju:List Nat:=[0,1,2,3,4,10,11]
def Jv:List Nat:=[0,2]
def Jw:List Nat:=[0,1,2,3,8]
def Jx:List Nat:=[0,2]
def Jy:List Nat:=[0,1,4,5,6,7,8]
end
theorem kR{P:Prop}(h:P:=by kernel_rfl):P:=h
theorem RY:(aE Tryz.prog Pc 12).all aI=true:=by kernel_rfl
theorem RZ:(aE Tryz.prog Pd 13).all aI=true:=by kernel_rfl
theorem R0:(aE Tryz.prog Pe 15).all aI=true:=by kernel_rfl
theorem R1:(aE Tryz.prog Pf 18).all aI=true:=by kernel_rfl
theorem R2:(aE Tryz.prog Pg 26).all aI=true:=by kernel_rfl
theorem R3:(aE Tryz.prog Ph 29).all aI=true:=by kernel_rfl
theorem R4:(aE Tryz.prog Pj 38).all aI=true:=by kernel_rfl
theorem R5:(aE Tryz.prog Pk 39).all aI=true:=by kernel_rfl
theorem R6:(aE Tryz.prog Pl 40).all aI=true:=by kernel_rfl
theorem R7:(aE Tryz.prog Pm 41).all aI=true:=by kernel_rfl
theorem R8:(aE Tryz.prog Pn 53).all aI=true:=by kernel_rfl
theorem R9:(aE Tryz.prog Po 55).all aI=true:=by kernel_rfl
theorem Ra:(aE Tryz.prog Pp 60).all aI=true:=by kernel_rfl
theorem Rb:(aE Tryz.prog Pq 61).all aI=true:=by kernel_rfl
theorem Rc:(aE Tryz.prog Ps 62).all aI=true:=by kernel_rfl
theorem Re:(aE Tryz.prog Pt 63).all aI=true:=by kernel_rfl
theorem Rf:(aE Tryz.prog Pu 75).all aI=true:=by kernel_rfl
theorem Rg:(aE Tryz.prog Pv 76).all aI=true:=by kernel_rfl
theorem Rh:(aE Tryz.prog Pw 80).all aI=true:=by kernel_rfl
theorem O7:(aE Tryz.prog J1 104).all aI=true:=by kernel_rfl
theorem O8:(aE Tryz.prog J2 105).all aI=true:=by kernel_rfl
theorem O9:(aE Tryz.prog J3 106).all aI=true:=by kernel_rfl
theorem Oa:(aE Tryz.prog J4 107).all aI=true:=by kernel_rfl
theorem Ob:(aE Tryz.prog J5 128).all aI=true:=by kernel_rfl
theorem Oc:(aE Tryz.prog J6 129).all aI=true:=by kernel_rfl
theorem Od:(aE Tryz.prog J7 144).all aI=true:=by kernel_rfl
theorem Oe:(aE Tryz.prog J8 151).all aI=true:=by kernel_rfl
theorem Of:(aE Tryz.prog J9 152).all aI=true:=by kernel_rfl
theorem Og:(aE Tryz.prog Ja 153).all aI=true:=by kernel_rfl
theorem Oh:(aE Tryz.prog Jb 154).all aI=true:=by kernel_rfl
theorem Oi:(aE Tryz.prog Jc 155).all aI=true:=by kernel_rfl
theorem Oj:(aE Tryz.prog Jd 176).all aI=true:=by kernel_rfl
theorem Ol:(aE Tryz.prog Je 177).all aI=true:=by kernel_rfl
theorem Om:(aE Tryz.prog Jf 178).all aI=true:=by kernel_rfl
theorem On:(aE Tryz.prog Jg 183).all aI=true:=by kernel_rfl
theorem Oo:(aE Tryz.prog Jh 185).all aI=true:=by kernel_rfl
theorem Oq:(aE Tryz.prog Ji 187).all aI=true:=by kernel_rfl
theorem Ot:(aE Tryz.prog Jj 194).all aI=true:=by kernel_rfl
theorem Ou:(aE Tryz.prog Jk 195).all aI=true:=by kernel_rfl
theorem Ov:(aE Tryz.prog Jl 196).all aI=true:=by kernel_rfl
theorem Ow:(aE Tryz.prog Jm 197).all aI=true:=by kernel_rfl
theorem Ox:(aE Tryz.prog Jn 198).all aI=true:=by kernel_rfl
theorem Oy:(aE Tryz.prog Jo 199).all aI=true:=by kernel_rfl
theorem Oz:(aE Tryz.prog Jp 200).all aI=true:=by kernel_rfl
theorem PA:(aE Tryz.prog Jq 203).all aI=true:=by kernel_rfl
theorem PB:(aE Tryz.prog Jr 205).all aI=true:=by kernel_rfl
theorem PD:(aE Tryz.prog Js 206).all aI=true:=by kernel_rfl
theorem PE:(aE Tryz.prog Jt 207).all aI=true:=by kernel_rfl
theorem PF:(aE Tryz.prog Ju 208).all aI=true:=by kernel_rfl
theorem PG:(aE Tryz.prog Jv 209).all aI=true:=by kernel_rfl
theorem PH:(aE Tryz.prog Jw 210).all aI=true:=by kernel_rfl
theorem PI:(aE Tryz.prog Jx 211).all aI=true:=by kernel_rfl
theorem PJ:(aE Tryz.prog Jy 212).all aI=true:=by kernel_rfl
noncomputable def CX:FuncId->Option CF
 | 6=>some cf6
 | 12=>aE Tryz.prog Pc 12
 | 13=>aE Tryz.prog Pd 13
 | 15=>aE Tryz.prog Pe 15
 | _=>none
theorem xE(f:FuncId)(cf:CF)(h:CX f=some cf):∃t,aE Tryz.prog t f=some cf:=by
 unfold CX at h;split at h
 ·cases h;exact⟨[0,1,2,3,4,5,6,7,8,23,26,32,51,52],kR⟩
 ·exact⟨_,h⟩
 ·exact⟨_,h⟩
 ·exact⟨_,h⟩
 ·simp at h
noncomputable def CY:FuncId->Option CF
 | 16=>some ⟨2,32,[(.var 3),(.var 4),(.var 5)],Mn,.plain⟩
 | 17=>some ⟨2,23,[(.var 3),(.var 4),(.var 5)],Mo,.plain⟩
 | 18=>aE Tryz.prog Pf 18
 | 21=>some QX
 | 22=>some ⟨1,19,[(.var 2),(.var 3),(.var 4)],Mq,.plain⟩
 | 26=>aE Tryz.prog Pg 26
 | 27=>some ⟨3,12,[(.var 4)],Mr,.plain⟩
 | 28=>some ⟨1,12,[(.node (.ld 5 true) (.cons (.var 2) .nil)),(.var 3)],Ms,.plain⟩
 | 29=>aE Tryz.prog Ph 29
 | 30=>some ⟨3,9,[(.var 3)],Mt,.plain⟩
 | 31=>some ⟨1,6,[(.var 2)],Mu,.plain⟩
 | _=>none
theorem xF(f:FuncId)(cf:CF)(h:CY f=some cf):∃t,aE Tryz.prog t f=some cf:=by
 unfold CY at h;split at h
 ·cases h;exact⟨[0,1,3,4,5,6,7,8,9,10,11,12,13,14,15,16,17,25,31,32,33,39,41,42,46,51,52,53,54,63,64,65],kR⟩
 ·cases h;exact⟨[0,1,3,4,5,6,7,8,9,10,11,12,14,25,32,41,42,43,45,46,47,48,49],kR⟩
 ·exact⟨_,h⟩
 ·cases h;exact⟨[0,1,2,3,4,5,6,7,8,9,10,13,14,15,16,23,32],kR⟩
 ·cases h;exact⟨[0,1,2,3,4,5,6,7,8,9,10,11,12,15,16,17,18,25,34],kR⟩
 ·exact⟨_,h⟩
 ·cases h;exact⟨[0,1,2,4,6,8,9,10,11,17,18,19],kR⟩
 ·cases h;exact⟨[0,1,2,3,4,5,7,8,9,13,20,22],kR⟩
 ·exact⟨_,h⟩
 ·cases h;exact⟨[0,1,2,6,7,8,17,22,23],kR⟩
 ·cases h;exact⟨[0,1,2,3,4,5],kR⟩
 ·simp at h
noncomputable def CZ:FuncId->Option CF
 | 32=>some ⟨1,3,[(.var 1)],Mw,.plain⟩
 | 34=>some ⟨1,7,[(.node (.ld 5 true) (.cons (.var 2) .nil))],Mx,.plain⟩
 | 35=>some ⟨3,9,[(.var 3)],My,.plain⟩
 | 36=>some ⟨3,32,[(.node (.ld 2 true) (.cons (.var 4) .nil)),(.var 5)],Mz,.plain⟩
 | 37=>some ⟨3,15,[(.node (.ld 2 true) (.cons (.var 4) .nil)),(.var 5)],NA,.plain⟩
 | 38=>aE Tryz.prog Pj 38
 | 39=>aE Tryz.prog Pk 39
 | 40=>aE Tryz.prog Pl 40
 | 41=>aE Tryz.prog Pm 41
 | 45=>some QY
 | 46=>some ⟨1,12,[(.var 1),(.var 2)],NC,.plain⟩
 | 47=>some ⟨1,27,[(.var 2),(.node (.ld 7 true) (.cons (.var 3) .nil)),(.var 4)],ND,.plain⟩
 | _=>none
theorem xG(f:FuncId)(cf:CF)(h:CZ f=some cf):∃t,aE Tryz.prog t f=some cf:=by
 unfold CZ at h;split at h
 ·cases h;exact⟨[0,2,3],kR⟩
 ·cases h;exact⟨[0,1,2,3,12,13,14],kR⟩
 ·cases h;exact⟨[0,1,2,6,7,8,17,22,23],kR⟩
 ·cases h;exact⟨[0,1,2,3,6,7,9,10,12,13,14,17,20,21,22,39,44,45,46,47,49,50,52,53,54,55,82,86,87,102,104,105],kR⟩
 ·cases h;exact⟨[0,1,2,3,6,7,8,9,10,12,14,18,62,74,76],kR⟩
 ·exact⟨_,h⟩
 ·exact⟨_,h⟩
 ·exact⟨_,h⟩
 ·exact⟨_,h⟩
 ·cases h;exact⟨[0,1,2,3,4,5,6,7,8,9,10,11,12,13,15,18,21,28,30,33,39,41,42,43,57],kR⟩
 ·cases h;exact⟨[0,2,3,5,6,7,8,9,10,11,27,53],kR⟩
 ·cases h;exact⟨[0,1,2,3,4,5,6,7,8,9,10,11,12,13,14,15,16,17,19,22,23,58,63,69,89,112,116],kR⟩
 ·simp at h
noncomputable def C0:FuncId->Option CF
 | 48=>some ⟨1,14,[(.var 1),(.var 2)],NG,.plain⟩
 | 53=>aE Tryz.prog Pn 53
 | 54=>some ⟨2,5,[(.var 3)],NH,.plain⟩
 | 55=>aE Tryz.prog Po 55
 | 56=>some ⟨2,7,[(.node (.ld 3 true) (.cons (.var 2) .nil)),(.var 3)],NI,.plain⟩
 | 57=>some ⟨3,8,[(.node (.ld 5 true) (.cons (.var 4) .nil)),(.var 5)],NJ,.plain⟩
 | 58=>some ⟨2,9,[(.var 3)],NK,.plain⟩
 | 59=>some ⟨2,4,[(.var 3)],NL,.plain⟩
 | 60=>aE Tryz.prog Pp 60
 | 61=>aE Tryz.prog Pq 61
 | 62=>aE Tryz.prog Ps 62
 | 63=>aE Tryz.prog Pt 63
 | _=>none
theorem xH(f:FuncId)(cf:CF)(h:C0 f=some cf):∃t,aE Tryz.prog t f=some cf:=by
 unfold C0 at h;split at h
 ·cases h;exact⟨[0,2,3,4,5,7,12,28,32,34,40,42,48,50],kR⟩
 ·exact⟨_,h⟩
 ·cases h;exact⟨[0,1,3,4,7],kR⟩
 ·exact⟨_,h⟩
 ·cases h;exact⟨[0,1,4,5,6,17,19],kR⟩
 ·cases h;exact⟨[0,1,2,3,6,7,9,15],kR⟩
 ·cases h;exact⟨[0,1,2,4,7,8,15,17,21],kR⟩
 ·cases h;exact⟨[0,1,2,4],kR⟩
 ·exact⟨_,h⟩
 ·exact⟨_,h⟩
 ·exact⟨_,h⟩
 ·exact⟨_,h⟩
 ·simp at h
noncomputable def C1:FuncId->Option CF
 | 64=>some ⟨1,5,[(.var 2)],NM,.plain⟩
 | 65=>some ⟨2,6,[(.var 3)],NN,.plain⟩
 | 67=>some ⟨3,5,[(.var 4)],NO,.plain⟩
 | 68=>some ⟨3,5,[(.var 4)],NP,.plain⟩
 | 69=>some ⟨3,8,[(.var 4)],NQ,.plain⟩
 | 70=>some ⟨3,10,[(.node (.ld 5 true) (.cons (.var 4) .nil)),(.var 5)],NR,.plain⟩
 | 71=>some ⟨1,22,[(.node (.ld 4 true) (.cons (.var 2) .nil))],NS,.plain⟩
 | 72=>some ⟨1,9,[(.var 1)],NT,.plain⟩
 | 73=>some ⟨2,8,[(.var 2),(.var 3)],NU,.plain⟩
 | 74=>some ⟨4,59,[(.node (.ld 2 true) (.cons (.var 5) .nil)),(.var 6)],uz,.plain⟩
 | 75=>aE Tryz.prog Pu 75
 | 76=>aE Tryz.prog Pv 76
 | 77=>some ⟨1,4,[(.var 2),(.var 3)],NV,.plain⟩
 | 78=>some QZ
 | 79=>some ⟨3,11,[(.node (.ld 3 true) (.cons (.var 4) .nil))],NX,.plain⟩
 | _=>none
theorem xI(f:FuncId)(cf:CF)(h:C1 f=some cf):∃t,aE Tryz.prog t f=some cf:=by
 unfold C1 at h;split at h
 ·cases h;exact⟨[0,1,2,3,9],kR⟩
 ·cases h;exact⟨[0,1,2,4,5,17],kR⟩
 ·cases h;exact⟨[0,1,2,3,6],kR⟩
 ·cases h;exact⟨[0,1,2,3,6],kR⟩
 ·cases h;exact⟨[0,1,2,3,6,7,8,40],kR⟩
 ·cases h;exact⟨[0,1,2,3,6,7,8,10,16,18],kR⟩
 ·cases h;exact⟨[0,1,2,3,5,6,7,10,14,16,20,22,23,24,27,28,34,35,36,38,39,45],kR⟩
 ·cases h;exact⟨[0,2,3,5,18,19,20,21,26],kR⟩
 ·cases h;exact⟨[0,1,4,5,6,7,8,10],kR⟩
 ·cases h;exact⟨[0,1,2,3,4,8,9,10,11,12,13,14,15,16,17,18,19,20,21,22,23,24,25,26,28,31,35,36,47,48,54,55,58,59,61,67,68,70,84,85,86,92,93,106,111,112,113,115,116,137,141,148,161,165,178,181,186,187,192],kR⟩
 ·exact⟨_,h⟩
 ·exact⟨_,h⟩
 ·cases h;exact⟨[0,1,2,3],kR⟩
 ·cases h;exact⟨[0,1,4,5,6,7,8,9,10,11,12,13,14,18,20,48,73],kR⟩
 ·cases h;exact⟨[0,1,2,3,6,7,8,9,10,12,53],kR⟩
 ·simp at h
noncomputable def C2:FuncId->Option CF
 | 80=>aE Tryz.prog Pw 80
 | 81=>some ⟨1,3,[(.var 1)],NY,.plain⟩
 | 82=>some ⟨1,4,[(.var 2),(.var 3)],NZ,.plain⟩
 | 83=>some ⟨2,12,[(.var 2)],N0,.plain⟩
 | 84=>some ⟨3,8,[(.var 4),(.var 5)],N1,.plain⟩
 | 85=>some ⟨3,9,[(.var 4)],N3,.plain⟩
 | 86=>some ⟨1,3,[(.var 2)],N4,.plain⟩
 | 87=>some ⟨2,7,[(.var 2)],N5,.plain⟩
 | 88=>some ⟨2,4,[(.var 3)],N6,.plain⟩
 | 89=>some ⟨2,19,[(.var 2)],N7,.plain⟩
 | 90=>some ⟨1,3,[(.var 2)],N8,.plain⟩
 | 91=>some ⟨2,17,[(.node (.ld 6 true) (.cons (.var 3) .nil)),(.var 4)],N9,.plain⟩
 | 92=>some ⟨2,14,[(.node (.ld 6 true) (.cons (.var 3) .nil)),(.var 4)],Na,.plain⟩
 | 93=>some ⟨2,17,[(.node (.ld 6 true) (.cons (.var 3) .nil)),(.var 4)],Nb,.plain⟩
 | _=>none
theorem xJ(f:FuncId)(cf:CF)(h:C2 f=some cf):∃t,aE Tryz.prog t f=some cf:=by
 unfold C2 at h;split at h
 ·exact⟨_,h⟩
 ·cases h;exact⟨[0,2,3],kR⟩
 ·cases h;exact⟨[0,1,2,3],kR⟩
 ·cases h;exact⟨[0,1,4,5,6,7,8,12,20,24,25,26],kR⟩
 ·cases h;exact⟨[0,1,2,3,6,7,8,9],kR⟩
 ·cases h;exact⟨[0,1,2,3,6,8,9,10,13],kR⟩
 ·cases h;exact⟨[0,1,2],kR⟩
 ·cases h;exact⟨[0,1,4,5,7,8,16],kR⟩
 ·cases h;exact⟨[0,1,2,3],kR⟩
 ·cases h;exact⟨[0,1,4,5,13,17,21,22,34,38,47,48,51,55,59,63,67,71,75],kR⟩
 ·cases h;exact⟨[0,1,2],kR⟩
 ·cases h;exact⟨[0,1,3,4,5,6,25,29,30,44,55,56,67,69,95,103,104],kR⟩
 ·cases h;exact⟨[0,1,3,4,5,6,7,8,9,10,11,49,57,58],kR⟩
 ·cases h;exact⟨[0,1,3,4,5,6,7,8,9,57,74,79,81,82,90,92,94],kR⟩
 ·simp at h
noncomputable def C3:FuncId->Option CF
 | 99=>some ⟨2,7,[(.var 3)],Nc,.plain⟩
 | 100=>some ⟨1,12,[(.var 2)],Hj,.plain⟩
 | 101=>some ⟨3,5,[(.var 4)],Hk,.plain⟩
 | 102=>some ⟨2,8,[(.var 3)],Hl,.plain⟩
 | 103=>some ⟨2,4,[(.var 3)],Hm,.plain⟩
 | 104=>aE Tryz.prog J1 104
 | 105=>aE Tryz.prog J2 105
 | 106=>aE Tryz.prog J3 106
 | 107=>aE Tryz.prog J4 107
 | 108=>some ⟨2,9,[(.var 3)],Hn,.plain⟩
 | 109=>some ⟨1,9,[(.var 2)],Ho,.plain⟩
 | 110=>some ⟨2,4,[(.var 3)],Hp,.plain⟩
 | 111=>some ⟨1,13,[(.var 2)],Hq,.plain⟩
 | _=>none
theorem xL(f:FuncId)(cf:CF)(h:C3 f=some cf):∃t,aE Tryz.prog t f=some cf:=by
 unfold C3 at h;split at h
 ·cases h;exact⟨[0,1,3,4,5,7,8],kR⟩
 ·cases h;exact⟨[0,1,2,23,26,31,34,37,40,43,46,49],kR⟩
 ·cases h;exact⟨[0,1,2,3,6],kR⟩
 ·cases h;exact⟨[0,1,2,4,6,7,8,9],kR⟩
 ·cases h;exact⟨[0,1,2,4],kR⟩
 ·exact⟨_,h⟩
 ·exact⟨_,h⟩
 ·exact⟨_,h⟩
 ·exact⟨_,h⟩
 ·cases h;exact⟨[0,1,2,4,6,8,10,11,12],kR⟩
 ·cases h;exact⟨[0,1,2,3,9,33,37,59,62],kR⟩
 ·cases h;exact⟨[0,1,2,4],kR⟩
 ·cases h;exact⟨[0,1,2,3,4,5,6,9,15,22,24,25,30],kR⟩
 ·simp at h
noncomputable def C4:FuncId->Option CF
 | 112=>some ⟨4,16,[(.var 5)],Hr,.plain⟩
 | 113=>some ⟨2,7,[(.var 2)],Ht,.plain⟩
 | 114=>some ⟨1,6,[(.var 2),(.var 3)],Hu,.plain⟩
 | 115=>some ⟨3,10,[(.var 4),(.var 5)],Hv,.plain⟩
 | 116=>some ⟨1,4,[(.var 1)],Hw,.plain⟩
 | 117=>some ⟨1,17,[(.var 1)],Hy,.plain⟩
 | 118=>some ⟨1,6,[(.var 1)],Hz,.plain⟩
 | 119=>some ⟨1,23,[(.var 1)],IA,.plain⟩
 | 120=>some ⟨1,36,[(.var 1)],IB,.plain⟩
 | 121=>some ⟨1,6,[(.var 1)],IC,.plain⟩
 | 122=>some ⟨2,12,[(.var 3)],ID,.plain⟩
 | 123=>some ⟨2,11,[(.var 3)],IE,.plain⟩
 | 124=>some ⟨2,32,[(.var 3),(.var 4)],IF,.plain⟩
 | 125=>some ⟨3,11,[(.var 4)],IG,.plain⟩
 | 126=>some ⟨2,5,[(.var 3)],IH,.plain⟩
 | 127=>some ⟨4,39,[(.var 5)],II,.plain⟩
 | _=>none
theorem xM(f:FuncId)(cf:CF)(h:C4 f=some cf):∃t,aE Tryz.prog t f=some cf:=by
 unfold C4 at h;split at h<;>try cases h
 ·exact⟨[0,1,2,3,4,8,9,10,11,21,42,45,46,52,62,63],kR⟩
 ·exact⟨[0,1,4,5,6,8,10],kR⟩
 ·exact⟨[0,1,2,3,5,8],kR⟩
 ·exact⟨[0,1,2,3,6,7,8,11,12,17],kR⟩
 ·exact⟨[0,2,3,16],kR⟩
 ·exact⟨[0,2,3,4,5,6,12,13,14,20,24,28,32,36,39,40,41],kR⟩
 ·exact⟨[0,2,3,21,22,33],kR⟩
 ·exact⟨[0,2,3,4,5,6,10,11,12,20,26,29,31,34,44,49,53,55,56,60,64,66,67],kR⟩
 ·exact⟨[0,2,3,4,5,7,8,9,10,35,50,56,60,61,62,69,75,78,80,84,87,99,101,105,106,113,114,120,121,125,132,136,143,144,145,146],kR⟩
 ·exact⟨[0,2,4,17,18,19],kR⟩
 ·exact⟨[0,1,2,4,5,6,7,9,16,24,25,26],kR⟩
 ·exact⟨[0,1,2,4,5,6,7,8,10,12,26],kR⟩
 ·exact⟨[0,1,2,4,5,6,7,8,9,10,11,12,13,14,15,16,28,29,30,33,39,40,41,46,47,48,49,50,53,54,55,56],kR⟩
 ·exact⟨[0,1,2,3,6,7,8,16,20,24,25],kR⟩
 ·exact⟨[0,1,2,4,10],kR⟩
 ·exact⟨[0,1,2,3,4,8,9,10,11,12,13,14,15,16,17,24,25,31,32,35,36,42,54,61,71,72,73,80,81,82,83,84,88,89,90,91,92,93,94],kR⟩
noncomputable def C5:FuncId->Option CF
 | 128=>aE Tryz.prog J5 128
 | 129=>aE Tryz.prog J6 129
 | 130=>some ⟨1,2,[(.var 1)],IJ,.plain⟩
 | 131=>some Nk
 | 132=>some ⟨4,4,[],IL,.plain⟩
 | 133=>some ⟨4,6,[],IM,.plain⟩
 | 134=>some ⟨3,4,[(.var 3)],IN,.plain⟩
 | 135=>some ⟨4,4,[],IP,.plain⟩
 | 136=>some ⟨3,5,[],IQ,.plain⟩
 | 137=>some ⟨3,3,[],IS,.plain⟩
 | 138=>some ⟨1,7,[(.var 1)],IT,.plain⟩
 | 139=>some ⟨2,22,[(.var 2)],IU,.plain⟩
 | 140=>some ⟨1,17,[(.var 1)],IV,.plain⟩
 | 141=>some ⟨1,17,[(.var 1)],IW,.plain⟩
 | 142=>some ⟨1,12,[(.var 1)],IX,.plain⟩
 | 143=>some ⟨2,14,[(.node (.ld 6 true) (.cons (.var 3) .nil)),(.var 4)],IY,.plain⟩
 | _=>none
theorem xN(f:FuncId)(cf:CF)(h:C5 f=some cf):∃t,aE Tryz.prog t f=some cf:=by
 unfold C5 at h;split at h
 ·exact⟨_,h⟩
 ·exact⟨_,h⟩
 ·cases h;exact⟨[0,2],kR⟩
 ·cases h;exact⟨[0,1,4,5,6,7,8,18,30,33,38,45],kR⟩
 ·cases h;exact⟨[0,1,2,3],kR⟩
 ·cases h;exact⟨[0,1,2,3,8,9],kR⟩
 ·cases h;exact⟨[0,1,2,6],kR⟩
 ·cases h;exact⟨[0,1,2,3],kR⟩
 ·cases h;exact⟨[0,1,2,6,7],kR⟩
 ·cases h;exact⟨[0,1,2],kR⟩
 ·cases h;exact⟨[0,2,3,37,41,45,46],kR⟩
 ·cases h;exact⟨[0,1,4,5,6,7,8,9,11,12,13,16,17,18,19,26,27,52,60,64,66,67],kR⟩
 ·cases h;exact⟨[0,2,3,4,5,6,7,8,11,22,34,35,39,44,48,51,52],kR⟩
 ·cases h;exact⟨[0,2,3,4,5,7,10,11,12,13,20,21,24,28,30,31,32],kR⟩
 ·cases h;exact⟨[0,2,3,4,5,6,7,8,87,91,94,95],kR⟩
 ·cases h;exact⟨[0,1,3,4,5,6,7,8,23,47,72,81,83,84],kR⟩
 ·simp at h
noncomputable def C6:FuncId->Option CF
 | 144=>aE Tryz.prog J7 144
 | 145=>some ⟨2,10,[(.node (.ld 6 true) (.cons (.var 3) .nil)),(.var 4)],IZ,.plain⟩
 | 148=>some ⟨1,3,[(.var 1)],I0,.plain⟩
 | 149=>some ⟨1,3,[(.var 1)],I1,.plain⟩
 | 150=>some ⟨1,7,[(.var 1)],I2,.plain⟩
 | 151=>aE Tryz.prog J8 151
 | 152=>aE Tryz.prog J9 152
 | 153=>aE Tryz.prog Ja 153
 | 154=>aE Tryz.prog Jb 154
 | 155=>aE Tryz.prog Jc 155
 | 156=>some ⟨1,3,[(.var 1)],Bq,.plain⟩
 | 157=>some ⟨2,8,[(.var 2)],I3,.plain⟩
 | 158=>some ⟨1,3,[(.var 1)],I4,.plain⟩
 | 159=>some ⟨1,6,[(.var 2)],I5,.plain⟩
 | _=>none
theorem xO(f:FuncId)(cf:CF)(h:C6 f=some cf):∃t,aE Tryz.prog t f=some cf:=by
 unfold C6 at h;split at h
 ·exact⟨_,h⟩
 ·cases h;exact⟨[0,1,2,4,5,6,12,50,53,54],kR⟩
 ·cases h;exact⟨[0,2,3],kR⟩
 ·cases h;exact⟨[0,2,5],kR⟩
 ·cases h;exact⟨[0,2,3,5,6,8,14],kR⟩
 ·exact⟨_,h⟩
 ·exact⟨_,h⟩
 ·exact⟨_,h⟩
 ·exact⟨_,h⟩
 ·exact⟨_,h⟩
 ·cases h;exact⟨[0,2,3],kR⟩
 ·cases h;exact⟨[0,1,4,5,8,10,15,23],kR⟩
 ·cases h;exact⟨[0,2,3],kR⟩
 ·cases h;exact⟨[0,1,2,3,12,15],kR⟩
 ·simp at h
noncomputable def vM:FuncId->Option CF
 | 160=>some ⟨3,8,[(.var 4)],I6,.plain⟩
 | 161=>some ⟨1,6,[(.var 2)],I7,.plain⟩
 | 162=>some ⟨3,6,[(.var 4)],I8,.plain⟩
 | 163=>some ⟨3,23,[(.var 5)],I9,.plain⟩
 | 164=>some ⟨5,20,[(.var 6)],Ia,.plain⟩
 | 165=>some ⟨2,3,[(.var 2)],Ib,.plain⟩
 | 166=>some ⟨4,20,[(.var 5)],Ic,.plain⟩
 | 167=>some ⟨2,28,[(.var 3)],Ie,.plain⟩
 | 168=>some ⟨3,11,[(.var 4)],If,.plain⟩
 | 169=>some ⟨2,10,[(.var 3)],Ig,.plain⟩
 | 170=>some ⟨3,5,[(.var 4)],Ih,.plain⟩
 | 171=>some ⟨3,5,[(.var 4)],Ii,.plain⟩
 | 172=>some ⟨3,5,[(.var 4)],Ij,.plain⟩
 | 173=>some ⟨3,11,[(.var 4)],Ik,.plain⟩
 | 174=>some ⟨2,3,[(.var 2)],Il,.plain⟩
 | 175=>some ⟨5,21,[(.var 6)],Im,.plain⟩
 | _=>none
theorem vH(f:FuncId)(cf:CF)(h:vM f=some cf):∃t,aE Tryz.prog t f=some cf:=by
 unfold vM at h;split at h<;>try cases h
 ·exact⟨[0,1,2,3,6,7,16,20],kR⟩
 ·exact⟨[0,1,2,3,6,9],kR⟩
 ·exact⟨[0,1,2,3,6,7],kR⟩
 ·exact⟨[0,1,2,3,4,6,7,8,9,11,14,16,17,25,26,27,28,32,33,34,41,42,43],kR⟩
 ·exact⟨[0,1,2,3,4,5,10,11,12,13,21,25,26,27,32,35,36,42,46,47],kR⟩
 ·exact⟨[0,1,4],kR⟩
 ·exact⟨[0,1,2,3,4,8,9,10,11,12,14,15,16,17,35,38,39,45,52,53],kR⟩
 ·exact⟨[0,1,2,4,5,6,7,8,9,10,11,12,13,14,15,16,18,19,33,34,46,47,52,53,54,55,59,60],kR⟩
 ·exact⟨[0,1,2,3,6,7,8,16,20,24,25],kR⟩
 ·exact⟨[0,1,2,4,5,6,13,23,24,25],kR⟩
 ·exact⟨[0,1,2,3,6],kR⟩
 ·exact⟨[0,1,2,3,6],kR⟩
 ·exact⟨[0,1,2,3,6],kR⟩
 ·exact⟨[0,1,2,3,6,7,8,15,19,23,24],kR⟩
 ·exact⟨[0,1,4],kR⟩
 ·exact⟨[0,1,2,3,4,5,10,11,12,13,21,31,32,37,38,39,40,41,44,45,46],kR⟩
noncomputable def vN:FuncId->Option CF
 | 176=>aE Tryz.prog Jd 176
 | 177=>aE Tryz.prog Je 177
 | 178=>aE Tryz.prog Jf 178
 | 179=>some ⟨2,10,[(.var 2),(.var 3)],Io,.plain⟩
 | 180=>some ⟨3,10,[],Ip,.plain⟩
 | 181=>some ⟨2,4,[],Iq,.plain⟩
 | 182=>some ⟨1,5,[(.node (.ld 3 true) (.cons (.var 1) .nil)),(.var 2),(.var 3)],Ir,.plain⟩
 | 183=>aE Tryz.prog Jg 183
 | 184=>some ⟨1,6,[(.var 1),(.var 2)],Is,.plain⟩
 | 185=>aE Tryz.prog Jh 185
 | 186=>some ⟨2,3,[(.var 2)],It,.plain⟩
 | 187=>aE Tryz.prog Ji 187
 | 189=>some ⟨1,4,[(.var 1)],Iu,.plain⟩
 | 190=>some ⟨2,9,[(.var 2)],Iv,.plain⟩
 | 191=>some ⟨2,7,[(.var 3)],Iw,.plain⟩
 | _=>none
theorem vI(f:FuncId)(cf:CF)(h:vN f=some cf):∃t,aE Tryz.prog t f=some cf:=by
 unfold vN at h;split at h
 ·exact⟨_,h⟩
 ·exact⟨_,h⟩
 ·exact⟨_,h⟩
 ·cases h;exact⟨[0,1,4,5,6,7,8,9,15,25],kR⟩
 ·cases h;exact⟨[0,1,2,4,6,7,8,9,11,12],kR⟩
 ·cases h;exact⟨[0,1,3,4],kR⟩
 ·cases h;exact⟨[0,2,3,4,5],kR⟩
 ·exact⟨_,h⟩
 ·cases h;exact⟨[0,2,3,4,24,29],kR⟩
 ·exact⟨_,h⟩
 ·cases h;exact⟨[0,1,4],kR⟩
 ·exact⟨_,h⟩
 ·cases h;exact⟨[0,2,5,7],kR⟩
 ·cases h;exact⟨[0,1,4,6,8,10,11,13,15],kR⟩
 ·cases h;exact⟨[0,1,2,4,5,6,19],kR⟩
 ·simp at h
noncomputable def vO:FuncId->Option CF
 | 192=>some ⟨2,7,[(.var 3)],Ix,.plain⟩
 | 193=>some ⟨3,5,[(.var 4)],Iy,.plain⟩
 | 194=>aE Tryz.prog Jj 194
 | 195=>aE Tryz.prog Jk 195
 | 196=>aE Tryz.prog Jl 196
 | 197=>aE Tryz.prog Jm 197
 | 198=>aE Tryz.prog Jn 198
 | 199=>aE Tryz.prog Jo 199
 | 200=>aE Tryz.prog Jp 200
 | 201=>some ⟨2,12,[(.var 2),(.var 3)],Iz,.plain⟩
 | 202=>some ⟨4,4,[],JA,.plain⟩
 | 203=>aE Tryz.prog Jq 203
 | 204=>some ⟨1,2,[(.var 1)],JB,.plain⟩
 | 205=>aE Tryz.prog Jr 205
 | 206=>aE Tryz.prog Js 206
 | 207=>aE Tryz.prog Jt 207
 | _=>none
theorem vJ(f:FuncId)(cf:CF)(h:vO f=some cf):∃t,aE Tryz.prog t f=some cf:=by
 unfold vO at h;split at h
 ·cases h;exact⟨[0,1,2,4,5,6,13],kR⟩
 ·cases h;exact⟨[0,1,2,3,6],kR⟩
 ·exact⟨_,h⟩
 ·exact⟨_,h⟩
 ·exact⟨_,h⟩
 ·exact⟨_,h⟩
 ·exact⟨_,h⟩
 ·exact⟨_,h⟩
 ·exact⟨_,h⟩
 ·cases h;exact⟨[0,1,4,5,6,7,8,9,10,11,12,13],kR⟩
 ·cases h;exact⟨[0,1,2,3],kR⟩
 ·exact⟨_,h⟩
 ·cases h;exact⟨[0,2],kR⟩
 ·exact⟨_,h⟩
 ·exact⟨_,h⟩
 ·exact⟨_,h⟩
 ·simp at h
noncomputable def vP:FuncId->Option CF
 | 208=>aE Tryz.prog Ju 208
 | 209=>aE Tryz.prog Jv 209
 | 210=>aE Tryz.prog Jw 210
 | 211=>aE Tryz.prog Jx 211
 | 212=>aE Tryz.prog Jy 212
 | _=>none
theorem vL(f:FuncId)(cf:CF)(h:vP f=some cf):∃t,aE Tryz.prog t f=some cf:=by
 unfold vP at h;split at h
 ·exact⟨_,h⟩
 ·exact⟨_,h⟩
 ·exact⟨_,h⟩
 ·exact⟨_,h⟩
 ·exact⟨_,h⟩
 ·simp at h
theorem Gs(f:FuncId)(cf:CF)(h:CX f=some cf):aI cf=true:=by
 unfold CX at h;split at h
 ·cases h;kernel_rfl
 ·have:=RY;rw[h]at this;exact this
 ·have:=RZ;rw[h]at this;exact this
 ·have:=R0;rw[h]at this;exact this
 ·simp at h
theorem Gt(f:FuncId)(cf:CF)(h:CY f=some cf):aI cf=true:=by
 unfold CY at h;split at h
 ·cases h;kernel_rfl
 ·cases h;kernel_rfl
 ·have:=R1;rw[h]at this;exact this
 ·cases h;kernel_rfl
 ·cases h;kernel_rfl
 ·have:=R2;rw[h]at this;exact this
 ·cases h;kernel_rfl
 ·cases h;kernel_rfl
 ·have:=R3;rw[h]at this;exact this
 ·cases h;kernel_rfl
 ·cases h;kernel_rfl
 ·simp at h
theorem Gu(f:FuncId)(cf:CF)(h:CZ f=some cf):aI cf=true:=by
 unfold CZ at h;split at h
 ·cases h;kernel_rfl
 ·cases h;kernel_rfl
 ·cases h;kernel_rfl
 ·cases h;kernel_rfl
 ·cases h;kernel_rfl
 ·have:=R4;rw[h]at this;exact this
 ·have:=R5;rw[h]at this;exact this
 ·have:=R6;rw[h]at this;exact this
 ·have:=R7;rw[h]at this;exact this
 ·cases h;kernel_rfl
 ·cases h;kernel_rfl
 ·cases h;kernel_rfl
 ·simp at h
theorem Gv(f:FuncId)(cf:CF)(h:C0 f=some cf):aI cf=true:=by
 unfold C0 at h;split at h
 ·cases h;kernel_rfl
 ·have:=R8;rw[h]at this;exact this
 ·cases h;kernel_rfl
 ·have:=R9;rw[h]at this;exact this
 ·cases h;kernel_rfl
 ·cases h;kernel_rfl
 ·cases h;kernel_rfl
 ·cases h;kernel_rfl
 ·have:=Ra;rw[h]at this;exact this
 ·have:=Rb;rw[h]at this;exact this
 ·have:=Rc;rw[h]at this;exact this
 ·have:=Re;rw[h]at this;exact this
 ·simp at h
theorem Gw(f:FuncId)(cf:CF)(h:C1 f=some cf):aI cf=true:=by
 unfold C1 at h;split at h
 ·cases h;kernel_rfl
 ·cases h;kernel_rfl
 ·cases h;kernel_rfl
 ·cases h;kernel_rfl
 ·cases h;kernel_rfl
 ·cases h;kernel_rfl
 ·cases h;kernel_rfl
 ·cases h;kernel_rfl
 ·cases h;kernel_rfl
 ·cases h;kernel_rfl
 ·have:=Rf;rw[h]at this;exact this
 ·have:=Rg;rw[h]at this;exact this
 ·cases h;kernel_rfl
 ·cases h;kernel_rfl
 ·cases h;kernel_rfl
 ·simp at h
theorem Gx(f:FuncId)(cf:CF)(h:C2 f=some cf):aI cf=true:=by
 unfold C2 at h;split at h
 ·have:=Rh;rw[h]at this;exact this
 ·cases h;kernel_rfl
 ·cases h;kernel_rfl
 ·cases h;kernel_rfl
 ·cases h;kernel_rfl
 ·cases h;kernel_rfl
 ·cases h;kernel_rfl
 ·cases h;kernel_rfl
 ·cases h;kernel_rfl
 ·cases h;kernel_rfl
 ·cases h;kernel_rfl
 ·cases h;kernel_rfl
 ·cases h;kernel_rfl
 ·cases h;kernel_rfl
 ·simp at h
theorem Gy(f:FuncId)(cf:CF)(h:C3 f=some cf):aI cf=true:=by
 unfold C3 at h;split at h
 ·cases h;kernel_rfl
 ·cases h;kernel_rfl
 ·cases h;kernel_rfl
 ·cases h;kernel_rfl
 ·cases h;kernel_rfl
 ·have:=O7;rw[h]at this;exact this
 ·have:=O8;rw[h]at this;exact this
 ·have:=O9;rw[h]at this;exact this
 ·have:=Oa;rw[h]at this;exact this
 ·cases h;kernel_rfl
 ·cases h;kernel_rfl
 ·cases h;kernel_rfl
 ·cases h;kernel_rfl
 ·simp at h
theorem Gz(f:FuncId)(cf:CF)(h:C4 f=some cf):aI cf=true:=by
 unfold C4 at h;split at h<;>first|(cases h;exact kR)|simp at h
theorem HA(f:FuncId)(cf:CF)(h:C5 f=some cf):aI cf=true:=by
 unfold C5 at h;split at h
 ·have:=Ob;rw[h]at this;exact this
 ·have:=Oc;rw[h]at this;exact this
 ·cases h;kernel_rfl
 ·cases h;kernel_rfl
 ·cases h;kernel_rfl
 ·cases h;kernel_rfl
 ·cases h;kernel_rfl
 ·cases h;kernel_rfl
 ·cases h;kernel_rfl
 ·cases h;kernel_rfl
 ·cases h;kernel_rfl
 ·cases h;kernel_rfl
 ·cases h;kernel_rfl
 ·cases h;kernel_rfl
 ·cases h;kernel_rfl
 ·cases h;kernel_rfl
 ·simp at h
theorem HB(f:FuncId)(cf:CF)(h:C6 f=some cf):aI cf=true:=by
 unfold C6 at h;split at h
 ·have:=Od;rw[h]at this;exact this
 ·cases h;kernel_rfl
 ·cases h;kernel_rfl
 ·cases h;kernel_rfl
 ·cases h;kernel_rfl
 ·have:=Oe;rw[h]at this;exact this
 ·have:=Of;rw[h]at this;exact this
 ·have:=Og;rw[h]at this;exact this
 ·have:=Oh;rw[h]at this;exact this
 ·have:=Oi;rw[h]at this;exact this
 ·cases h;kernel_rfl
 ·cases h;kernel_rfl
 ·cases h;kernel_rfl
 ·cases h;kernel_rfl
 ·simp at h
theorem Dx(f:FuncId)(cf:CF)(h:vM f=some cf):aI cf=true:=by
 unfold vM at h;split at h<;>first|(cases h;exact kR)|simp at h
theorem Dy(f:FuncId)(cf:CF)(h:vN f=some cf):aI cf=true:=by
 unfold vN at h;split at h
 ·have:=Oj;rw[h]at this;exact this
 ·have:=Ol;rw[h]at this;exact this
 ·have:=Om;rw[h]at this;exact this
 ·cases h;kernel_rfl
 ·cases h;kernel_rfl
 ·cases h;kernel_rfl
 ·cases h;kernel_rfl
 ·have:=On;rw[h]at this;exact this
 ·cases h;kernel_rfl
 ·have:=Oo;rw[h]at this;exact this
 ·cases h;kernel_rfl
 ·have:=Oq;rw[h]at this;exact this
 ·cases h;kernel_rfl
 ·cases h;kernel_rfl
 ·cases h;kernel_rfl
 ·simp at h
theorem EA(f:FuncId)(cf:CF)(h:vO f=some cf):aI cf=true:=by
 unfold vO at h;split at h
 ·cases h;kernel_rfl
 ·cases h;kernel_rfl
 ·have:=Ot;rw[h]at this;exact this
 ·have:=Ou;rw[h]at this;exact this
 ·have:=Ov;rw[h]at this;exact this
 ·have:=Ow;rw[h]at this;exact this
 ·have:=Ox;rw[h]at this;exact this
 ·have:=Oy;rw[h]at this;exact this
 ·have:=Oz;rw[h]at this;exact this
 ·cases h;kernel_rfl
 ·cases h;kernel_rfl
 ·have:=PA;rw[h]at this;exact this
 ·cases h;kernel_rfl
 ·have:=PB;rw[h]at this;exact this
 ·have:=PD;rw[h]at this;exact this
 ·have:=PE;rw[h]at this;exact this
 ·simp at h
theorem EB(f:FuncId)(cf:CF)(h:vP f=some cf):aI cf=true:=by
 unfold vP at h;split at h
 ·have:=PF;rw[h]at this;exact this
 ·have:=PG;rw[h]at this;exact this
 ·have:=PH;rw[h]at this;exact this
 ·have:=PI;rw[h]at this;exact this
 ·have:=PJ;rw[h]at this;exact this
 ·simp at h
noncomputable def cp(f:FuncId):Option CF:=match f/16 with
 | 0=>CX f
 | 1=>CY f
 | 2=>CZ f
 | 3=>C0 f
 | 4=>C1 f
 | 5=>C2 f
 | 6=>C3 f
 | 7=>C4 f
 | 8=>C5 f
 | 9=>C6 f
 | 10=>vM f
 | 11=>vN f
 | 12=>vO f
 | 13=>vP f
 | _=>none
theorem CO:mn Tryz.prog cp:=by
 intro f cf h;unfold cp at h;split at h
 ·exact xE f cf h
 ·exact xF f cf h
 ·exact xG f cf h
 ·exact xH f cf h
 ·exact xI f cf h
 ·exact xJ f cf h
 ·exact xL f cf h
 ·exact xM f cf h
 ·exact xN f cf h
 ·exact xO f cf h
 ·exact vH f cf h
 ·exact vI f cf h
 ·exact vJ f cf h
 ·exact vL f cf h
 ·simp at h
theorem l6(f:FuncId)(cf:CF)(h:cp f=some cf):aI cf=true:=by
 unfold cp at h;split at h
 ·exact Gs f cf h
 ·exact Gt f cf h
 ·exact Gu f cf h
 ·exact Gv f cf h
 ·exact Gw f cf h
 ·exact Gx f cf h
 ·exact Gy f cf h
 ·exact Gz f cf h
 ·exact HA f cf h
 ·exact HB f cf h
 ·exact Dx f cf h
 ·exact Dy f cf h
 ·exact EA f cf h
 ·exact EB f cf h
 ·simp at h
theorem mixed:Tryz.prog.follows .mixedOrders=true:=by kernel_rfl
theorem O2(base n:Nat):RunOK Tryz.prog base Tryz.prog.globals.size (run cp n):=sound mixed CO base n
end Go.Proofs.YtmnlgdpdgjbfgaaGreat
