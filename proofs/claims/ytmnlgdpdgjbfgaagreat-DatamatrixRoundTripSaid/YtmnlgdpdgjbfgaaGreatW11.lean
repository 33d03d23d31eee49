/- Lemmas. -/
import Derived.Test.YtmnlgdpdgjbfgaaGreatW8
import Derived.Test.YtmnlgdpdgjbfgaaGreatProg
import Derived.KernelRfl
set_option linter.all false
namespace Go.Proofs.YtmnlgdpdgjbfgaaGreat
open Go.Abs
def Iw:ByteArray:=⟨#[0,1,2,2,3,3,3,3,4,4,4,4,4,4,4,4,5,5,5,5,5,5,5,5,5,5,5,5,5,5,5,5,6,6,6,6,6,6,6,6,6,6,6,6,6,6,6,6,6,6,6,6,6,6,6,6,6,6,6,6,6,6,6,6,7,7,7,7,7,7,7,7,7,7,7,7,7,7,7,7,7,7,7,7,7,7,7,7,7,7,7,7,7,7,7,7,7,7,7,7,7,7,7,7,7,7,7,7,7,7,7,7,7,7,7,7,7,7,7,7,7,7,7,7,7,7,7,7,8,8,8,8,8,8,8,8,8,8,8,8,8,8,8,8,8,8,8,8,8,8,8,8,8,8,8,8,8,8,8,8,8,8,8,8,8,8,8,8,8,8,8,8,8,8,8,8,8,8,8,8,8,8,8,8,8,8,8,8,8,8,8,8,8,8,8,8,8,8,8,8,8,8,8,8,8,8,8,8,8,8,8,8,8,8,8,8,8,8,8,8,8,8,8,8,8,8,8,8,8,8,8,8,8,8,8,8,8,8,8,8,8,8,8,8,8,8,8,8,8,8,8,8,8,8,8,8]⟩
def SP:ByteArray:=⟨#[116,104,101,32,114,101,115,117,108,116,32,111,102,32,40,108,101,110,40,120,41,32,42,32,99,111,117,110,116,41,32,111,118,101,114,102,108,111,119,115]⟩
namespace K
def x(n:Nat):E:=.var n
def i(n:Int):E:=.cst (.int .i64 n)
def c(a b:E):E:=.cons a b
def c1(a:E):E:=.cons a .nil
def c2(a b:E):E:=.cons a (.cons b .nil)
def c3(a b c:E):E:=.cons a (.cons b (.cons c .nil))
def n1(o:LOp)(a:E):E:=.node o (.cons a .nil)
def n2(o:LOp)(a b:E):E:=.node o (.cons a (.cons b .nil))
def b(o:BinOp)(a b:E):E:=.node (.bin o) (.cons a (.cons b .nil))
def ld(a:E):E:=.node (.ld 1 false) (.cons a .nil)
def fa(n:Nat)(a:E):E:=.node (.fAddr n) (.cons a .nil)
def ix(n:Nat)(a:E):E:=.node (.ext n) (.cons a .nil)
def p(a b c:E):E:=.pick a b c
def h(d:Nat)(o:HOp)(a:E):Stm:=.hv [] [] [] (some d) o a
def cl(d f:Nat)(a:E):Stm:=.hv [] [] [] (some d) (.call false) (.cons (.cst (.func (.func f) #[] #[])) a)
def s(l:List (Nat×E)):Stm:=.sets l []
def q(a b:Stm):Stm:=.seq a b
def e:Stm:=.skip
def r:Stm:=.ret
def z:Value:=.int .i64 0
def u:Value:=.slice none 0 0
def f:E:=.cst (.bool false)
def t:E:=.cst (.bool true)
def hh(l:List (Nat×E))(d:Nat)(o:HOp)(a:E):Stm:=.hv l [] [] (some d) o a
def ia(n:Nat)(a b:E):E:=.node (.iAddr n) (.cons a (.cons b .nil))
def ln(a:E):E:=.node .len (.cons a .nil)
def bk(i:Nat)(a:Stm):Stm:=.block i a
def lt(n:Nat)(a:E):E:=.node (.ld n true) (.cons a .nil)
def xt(i:Nat):Stm:=.exit i
def lo(a:Stm):Stm:=.loop a
def ad(a b:E):E:=.node (.bin .add) (.cons a (.cons b .nil))
instance (n:Nat):OfNat E n:=⟨.var n⟩
instance:HPow Stm Stm Stm:=⟨.seq⟩
theorem xv(n:Nat):(OfNat.ofNat n:E)=.var (@OfNat.ofNat Nat n (instOfNatNat n)):=rfl
theorem xq(a b:Stm):a^b=.seq a b:=rfl
def qs(l:List (Nat×E))(a:Stm):Stm:=.seq (.sets l []) a
def lf(n:Nat)(a:E):E:=.node (.ld 1 false) (.cons (.node (.fAddr n) (.cons a .nil)) .nil)
def k(c:E)(a b:Stm):Stm:=.cond c a b
def kq(c:E)(a:Stm):Stm:=.cond c a .skip
def fn(n:Nat):E:=.cst (.func (.func n) #[] #[])
def nk(n:Nat):E:=.node .nilChk (.cons (.var n) .nil)
def w(n:Nat)(a b:E):Stm:=.hv [] [] [] none (.st n) (.cons a (.cons b .nil))
def v(o:HOp)(a:E):Stm:=.hv [] [] [] none o a
end K
def kB:=zzi @K.x.eq_1 (zzi @K.i.eq_1 (zzi @K.c.eq_1 (zzi @K.c1.eq_1 (zzi @K.c2.eq_1 (zzi @K.c3.eq_1 (zzi @K.n1.eq_1 (zzi @K.n2.eq_1 (zzi @K.b.eq_1 (zzi @K.ld.eq_1 (zzi @K.fa.eq_1 (zzi @K.ix.eq_1 (zzi @K.p.eq_1 (zzi @K.h.eq_1 (zzi @K.cl.eq_1 (zzi @K.s.eq_1 (zzi @K.q.eq_1 (zzi @K.e.eq_1 (zzi @K.r.eq_1 (zzi @K.z.eq_1 (zzi @K.u.eq_1 (zzi @K.f.eq_1 (zzi @K.t.eq_1 (zzi @K.qs.eq_1 (zzi @K.lf.eq_1 (zzi @K.k.eq_1 (zzi @K.kq.eq_1 (zzi @K.fn.eq_1 (zzi @K.nk.eq_1 (zzi @K.w.eq_1 (zzi @K.v.eq_1 (zzi @K.hh.eq_1 (zzi @K.ia.eq_1 (zzi @K.ln.eq_1 (zzi @K.bk.eq_1 (zzi @K.lt.eq_1 (zzi @K.xt.eq_1 (zzi @K.lo.eq_1 (zzi @K.ad.eq_1 (zzi @frm.eq_1 (zzi @frm.eq_2 (zzi @frz.eq_1 (zzi @frz.eq_2 (zzi @K.xv @K.xq)))))))))))))))))))))))))))))))))))))))))))
section
open K
def bd7:Stm:=
 s [(2,f)]^kq (b .gtr (ln 0) (i 300)) ((cl 8 12 .nil^s [(2,8)])^r)^(cl 9 18 (c2 0 1)^hh [(11,ix 1 9),(10,ix 0 9)] 3 (.alloc [z,z,u]) .nil^w 3 3 10^s [(4,
 11)])^(cl 12 21 (c1 (lt 3 3))^s [(7,ix 2 12),(6,ix 1 12),(5,ix 0 12)])^(Stm.hv [(13,p (p (p (b .eql 4 (i 0)) (b .eql 7 (i 0)) f) (b .eql 6 (i 0)) f) (b
 .eql (n1 .b2s 5) (n1 .b2s 0)) f)] [] [(p (p (p (b .eql 4 (i 0)) (b .eql 7 (i 0)) f) (b .eql 6 (i 0)) f) (b .eql (n1 .b2s 5) (n1 .b2s 0)) f,true)] (some 14)
 (.call false) (c1 (fn 12))^s [(2,p 13 14 f)])^r
def cf7:CF:=⟨2,15,[(.var 2)],bd7,.plain⟩
def RQ:List Nat:=[0,1,2,3,4,5,6,7,8,9,10,11,12,13,14,16,18,23,24,25,26,36,41,42,43,44,45,48,53,54,55,62,63,64,65]
def PD:Stm:=
 (h 2 .box (c1 1)^s [(4,i 0),(3,.cst u)])^((cl 14 27 (c3 0 (lt 7 2) (lf 4 2))^s [(5,14)])^kq (b .neq 5 (i 0)) (s [(4,5),(3,.cst u)]^r))^(cl 15 28 (c1 (lt
 7 2))^hh [(17,ix 1 15),(16,ix 0 15)] 6 (.alloc [z,z,z,z,z]) .nil^w 5 6 16^s [(7,17)])^kq (b .neq 7 (i 0)) (s [(4,7),(3,.cst u)]^r)^(h 18 (.mkSl
 [z]) (c2 (ad (lf 4 2) (lf 5 2)) (ad (lf 4 2) (lf 5 2)))^s [(8,18)])^(s [(20,i 0),(19,lf 6 2)]^bk 0 (lo (k (b .lss 20 19) e (xt 0)^bk 1 (s [(9,20)]^(hh
 [(21,lt 5 6)] 22 (.call true) (c (fn 30) (c3 0 (lf 6 2) 9))^h 23 .callC (c3 (fn 29) 21 22)^s [(11,ix 1 23),(10,ix 0 23)])^kq (b .neq 11 (i 0)) (s [(4,
 11),(3,.cst u)]^r)^s [(26,i 0),(25,ln 10),(24,10)]^bk 2 (lo (k (b .lss 26 25) e (xt 2)^bk 3 (s [(13,ld (ia 1 24 26)),(12,26)]^w 1 (ia 1 8 (ad 9 (b
 .mul 12 (lf 6 2)))) 13)^s [(26,ad 26 (i 1))])))^s [(20,ad 20 (i 1))])))^s [(4,i 0),(3,8)]^r
def RR:List Nat:=[0,1,4,5]
def PE:Stm:=
 (h 2 .box (c1 1)^s [(5,i 0),(4,i 0),(3,.cst u)])^Stm.scope (((cl 17 27 (c3 0 (lt 7 2) (ad (lf 4 2) (lf 5 2)))^s [(6,17)])^kq (b .neq 6 (i 0)) (s [(5,6),
 (4,i 0),(3,.cst u)]^r))^(cl 18 28 (c1 (lt 7 2))^hh [(20,ix 1 18),(19,ix 0 18)] 7 (.alloc [z,z,z,z,z]) .nil^w 5 7 19^s [(8,20)])^kq (b .neq 8 (i 0))
 (s [(5,8),(4,i 0),(3,.cst u)]^r)^(h 21 (.mkSl [z]) (c2 (lf 4 2) (lf 4 2))^s [(9,21)])^s [(10,i 0)]^e^(s [(23,i 0),(22,lf 6 2)]^bk 0 (lo (k (b .lss
 23 22) e (xt 0)^bk 1 (s [(11,23)]^(hh [(24,lt 5 7)] 25 (.call true) (c (fn 30) (c3 0 (lf 6 2) 11))^h 26 .callC (c (fn 36) (c3 24 25 (.cst u)))^hh [(28,ix 1
 26),(27,ix 0 26)] 12 (.alloc [u,u]) .nil^w 2 12 27^s [(13,28)])^kq (b .neq 13 (i 0)) (s [(5,i 17),(4,i 0),(3,.cst u)]^r)^s [(10,ad 10 (ln (lf 1
 12)))]^s [(31,i 0),(30,ln (lf 0 12)),(29,lf 0 12)]^bk 2 (lo (k (b .lss 31 30) e (xt 2)^bk 3 (s [(15,ld (ia 1 29 31)),(14,31)]^s [(16,ad 11 (b .mul 14
 (lf 6 2)))]^kq (b .geq 16 (lf 4 2)) (xt 1)^w 1 (ia 1 9 16) 15)^s [(31,ad 31 (i 1))])))^s [(23,ad 23 (i 1))])))^s [(5,i 0),(4,10),(3,9)]^r) (.alt 0
 (e^(s [(23,i 0),(22,lf 6 2)]^bk 0 (lo (k (b .lss 23 22) e (xt 0)^bk 1 (s [(11,23)]^(hh [(24,lt 5 7)] 25 (.call true) (c (fn 30) (c3 0 (lf 6 2) 11))^h 26
 .callC (c (fn 36) (c3 24 25 (.cst u)))^hh [(28,ix 1 26),(27,ix 0 26)] 12 (.alloc [u,u]) .nil^w 2 12 27^s [(13,28)])^kq (b .neq 13 (i 0)) (s [(5,i 17),
 (4,i 0),(3,.cst u)]^r)^s [(10,ad 10 (ln (lf 1 12)))]^s [(31,i 0),(30,ln (lf 0 12)),(29,lf 0 12)]^bk 2 (lo (k (b .lss 31 30) e (xt 2)^bk 3 (s [(15,ld
 (ia 1 29 31)),(14,31)]^s [(16,ad 11 (b .mul 14 (lf 6 2)))]^kq (b .geq 16 (lf 4 2)) (xt 1)^w 1 (ia 1 9 16) 15)^s [(31,ad 31 (i 1))])))^s [(23,ad 23 (i
 1))])))^s [(5,i 0),(4,10),(3,9)]^r) (kq .nil e))
def PF:Stm:=
 (h 2 (.alloc [z,z,u]) .nil^s [(3,i 0)])^(cl 9 38 (c1 0)^s [(5,ix 1 9),(4,ix 0 9)])^kq (b .neq 5 (i 0)) ((Stm.hv [(10,5)] [] [] none (.st 3) (c2 2 (.node
 (.build [z,z,u] []) .nil))^s [(3,10)])^r)^(cl 11 39 (c2 (n2 (.minmax true) (ln 4) (i 1)) 1)^hh [(13,ix 1 11),(12,ix 0 11)] 6 (.alloc [z,z,z,z,z,z,
 z]) .nil^w 7 6 12^s [(5,13)])^kq (b .neq 5 (i 0)) ((Stm.hv [(14,5)] [] [] none (.st 3) (c2 2 (.node (.build [z,z,u] []) .nil))^s [(3,14)])^r)^(cl 15 40
 (c2 4 (lf 4 6))^s [(5,ix 1 15),(7,ix 0 15)])^kq (b .neq 5 (i 0)) ((Stm.hv [(16,5)] [] [] none (.st 3) (c2 2 (.node (.build [z,z,u] []) .nil))^s [(3,
 16)])^r)^(cl 17 13 (c2 7 (lt 7 6))^s [(5,ix 1 17),(8,ix 0 17)])^kq (b .neq 5 (i 0)) ((Stm.hv [(18,5)] [] [] none (.st 3) (c2 2 (.node (.build [z,z,u]
 []) .nil))^s [(3,18)])^r)^(cl 19 41 (c2 8 (lt 7 6))^Stm.hv [(20,ix 1 19)] [] [] none (.st 3) (c2 2 (ix 0 19))^s [(3,20)])^r
def Rc:CF:=⟨2,21,[(.node (.ld 3 true) (.cons (.var 2) .nil)),(.var 3)],PF,.plain⟩
def PG:Stm:=
 (h 1 .box (c1 0)^s [(4,i 0),(3,i 0),(2,.cst u)])^(cl 11 45 (c1 (lt 3 1))^hh [(14,ix 2 11),(13,ix 1 11),(12,ix 0 11)] 6 (.alloc [z,z,z,z,z,z,z])
 .nil^Stm.hv [(5,12)] [] [] none (.st 7) (c2 6 13)^s [(7,14)])^kq (b .neq 7 (i 0)) (s [(4,7),(3,i 0),(2,.cst u)]^r)^(cl 15 16 (c2 5 (lt 7 6))^s [(7,ix
 2 15),(9,ix 1 15),(8,ix 0 15)])^kq (b .neq 7 (i 0)) (s [(4,7),(3,i 0),(2,.cst u)]^r)^(cl 16 46 (c1 8)^s [(7,ix 1 16),(10,ix 0 16)])^kq (b .neq 7
 (i 0)) (s [(4,7),(3,i 0),(2,.cst u)]^r)^s [(4,i 0),(3,9),(2,10)]^r
def Re:CF:=⟨1,17,[(.var 2),(.var 3),(.var 4)],PG,.plain⟩
def PH:Stm:=
 (h 3 .box (c1 1)^s [(4,i 0)])^(hh [(7,lt 7 3)] 6 (.call true) (c1 (fn 55))^h 8 .callC (c3 (fn 54) 6 7)^kq (n1 (.un .not) 8) (s [(4,i 14)]^r))^kq (b .neq (ln
 0) 2) (s [(4,i 7)]^r)^(s [(11,i 0),(10,ln 0),(9,0)]^bk 0 (lo (k (b .lss 11 10) e (xt 0)^bk 1 (s [(5,ld (ia 1 9 11))]^kq (p (b .lss 5 (i 0)) t (b .gtr 5
 (i 255))) (s [(4,i 3)]^r))^s [(11,ad 11 (i 1))])))^s [(4,i 0)]^r
def PI:Stm:=
 (h 1 .box (c1 0)^h 2 (.alloc [z,z,z,z,z]) .nil^s [(3,i 0)])^(cl 6 56 (c2 (i 8) (i 301))^hh [(8,ix 1 6),(7,ix 0 6)] 4 (.alloc [z,z,z]) .nil^w 3 4 7^s
 [(5,8)])^kq (b .neq 5 (i 0)) ((Stm.hv [(9,5)] [] [] none (.st 5) (c2 2 (.node (.build [z,z,z,z,z] []) .nil))^s [(3,9)])^r)^(h 10 .callC (c (fn 57) (c3
 (lt 3 4) (b .quo (lf 5 1) (lf 6 1)) (i 1)))^Stm.hv [(11,ix 1 10)] [] [] none (.st 5) (c2 2 (ix 0 10))^s [(3,11)])^r
def PJ:Stm:=
 (h 2 .box (c1 0)^s [(4,i 0),(3,.cst u)])^(cl 15 58 (c2 (lt 5 2) 1)^kq (n1 (.un .not) 15) (s [(4,i 1),(3,.cst u)]^r))^(Stm.hv [(16,b .eql (ln 1) (i 0))]
 [] [(b .eql (ln 1) (i 0),false)] (some 17) (.call false) (c3 (fn 59) (lt 5 2) (ad (ln 1) (lf 3 2)))^kq (p 16 t (n1 (.un .not) 17)) (s [(4,i 7),(3,.cst
 u)]^r))^(cl 18 60 (c1 (lt 5 2))^s [(6,ix 1 18),(5,ix 0 18)])^kq (b .neq 6 (i 0)) (s [(4,6),(3,.cst u)]^r)^s [(7,ad (ln 1) (lf 3 2))]^(h 19 (.mkSl [z])
 (c2 7 7)^s [(8,19)])^(s [(22,i 0),(21,ln 1),(20,1)]^bk 0 (lo (k (b .lss 22 21) e (xt 0)^bk 1 (s [(10,ld (ia 1 20 22)),(9,22)]^w 1 (ia 1 8 (b .sub (b
 .sub 7 (i 1)) 9)) 10)^s [(22,ad 22 (i 1))])))^(hh [(25,5),(23,lt 3 (fa 0 2))] 24 (.call true) (c2 (fn 62) 8)^h 26 .callC (c (fn 61) (c3 23 24
 25))^Stm.sets [(6,ix 2 26),(11,ix 1 26)] [ix 0 26])^kq (b .neq 6 (i 0)) (s [(4,6),(3,.cst u)]^r)^(h 27 (.mkSl [z]) (c2 7 7)^s [(12,27)])^v (.cpy 1) (c2
 12 1)^(s [(30,i 0),(29,ln 11),(28,11)]^bk 2 (lo (k (b .lss 30 29) e (xt 2)^bk 3 (s [(14,ld (ia 1 28 30)),(13,30)]^(hh [(32,b .sub (b .sub 7 (i 1))
 13),(31,12)] 33 (.call false) (c (fn 63) (c3 (lt 3 (fa 0 2)) (i 0) 14))^Stm.hv [(34,ix 1 33)] [] [] none (.st 1) (c2 (ia 1 31 32) (ix 0 33))^s [(6,
 34)])^kq (b .neq 6 (i 0)) (s [(4,6),(3,.cst u)]^r))^s [(30,ad 30 (i 1))])))^s [(4,i 0),(3,12)]^r
def PK:Stm:=
 s [(3,.cst u)]^s [(4,.cst u)]^(s [(5,2)]^bk 0 (lo (k (b .lss 5 (ln 0)) e (xt 0)^bk 1 (hh [(6,4)] 7 (.bSl [z] 1 [0]) (c1 (ld (ia 1 0 5)))^h 8 (.app 1 [z])
 (c2 6 7)^s [(4,8)])^s [(5,ad 5 1)])))^s [(3,4)]^r
def PM:Stm:=
 (h 3 .box (c1 0)^h 4 (.alloc [u,u]) .nil^s [(5,i 0)])^(cl 11 58 (c2 (lt 5 3) 1)^kq (n1 (.un .not) 11) ((w 2 4 (.node (.build [u,u] []) .nil)^s [(5,i
 1)])^r))^(s [(14,i 0),(13,ln 2),(12,2)]^bk 0 (lo (k (b .lss 14 13) e (xt 0)^bk 1 (s [(6,ld (ia 1 12 14))]^kq (p (b .lss 6 (i 0)) t (b .geq 6 (ln 1)))
 ((w 2 4 (.node (.build [u,u] []) .nil)^s [(5,i 1)])^r))^s [(14,ad 14 (i 1))])))^(cl 15 59 (c2 (lt 5 3) (ln 1))^kq (n1 (.un .not) 15) ((w 2 4 (.node (.build
 [u,u] []) .nil)^s [(5,i 7)])^r))^(hh [(20,ln 1),(18,1),(17,lt 5 3)] 16 (.call true) (c2 (fn 71) (lt 3 (fa 0 3)))^h 19 (.app 1 [z]) (c2 (.cst u) 18)^h
 21 (.mkSl [.bool false]) (c2 20 20)^h 22 .box (c1 (.node (.build [z,z,u,u,z,z,z,z,z,u,u,z,u,u,u,u] [(0,4),(4,5),(9,1),(10,1)]) (c 16 (c3
 17 19 21))))^s [(7,22)]^Stm.dist (.cst u) 3)^(s [(25,i 0),(24,ln 2),(23,2)]^bk 2 (lo (k (b .lss 25 24) e (xt 2)^bk 3 (s [(8,ld (ia 1 23 25))]^kq (n1
 (.un .not) (ld (ia 1 (lf 10 (nk 7)) 8))) (w 1 (ia 1 (lf 10 (nk 7)) 8) t^w 1 (fa 11 (nk 7)) (ad (lf 11 (nk 7)) (i 1))))^s [(25,ad 25 (i 1))])))^(cl 26 72 (c1
 7)^kq (n1 (.un .not) 26) ((w 2 4 (.node (.build [u,u] []) .nil)^s [(5,i 17)])^r))^s [(9,.cst u)]^(s [(28,i 0),(27,ln 1)]^bk 4 (lo (k (b .lss 28 27) e
 (xt 4)^bk 5 (s [(10,28)]^kq (b .neq (ld (ia 1 (lf 9 (nk 7)) 10)) (ld (ia 1 1 10))) (hh [(29,9)] 30 (.bSl [z] 1 [0]) (c1 10)^h 31 (.app 1 [z]) (c2 29 30)^s
 [(9,31)]))^s [(28,ad 28 (i 1))])))^(w 2 4 (n2 (.build [u,u] [(0,1),(1,1)]) (lf 9 (nk 7)) 9)^s [(5,i 0)])^r
def PN:Stm:=
 s [(2,i 0),(1,.cst u)]^kq (b .gtr (ln 0) (i 4096)) (s [(2,i 4),(1,.cst u)]^r)^(cl 3 75 (c1 0)^cl 4 76 (c1 3)^s [(2,i 0),(1,4)])^r
def PO:Stm:=
 (h 2 (.alloc [z,z,z,z,z,z,z]) .nil^s [(3,i 0)])^kq (b .lss 0 (i 1)) ((w 7 2 (.node (.build [z,z,z,z,z,z,z] []) .nil)^s [(3,i 3)])^r)^kq (b .gtr 0
 (i 1558)) ((w 7 2 (.node (.build [z,z,z,z,z,z,z] []) .nil)^s [(3,i 16)])^r)^h 4 (.alloc [z,z,z,z,z,z,z]) .nil^((cl 6 55 .nil^s [(8,i 0),(7,ln
 6)])^bk 0 (lo (k (b .lss 8 7) e (xt 0)^bk 1 ((hh [(9,lt 7 (ia 7 6 8))] 5 (.alloc [z,z,z,z,z,z,z]) .nil^w 7 5 9)^kq (p (p 1 (b .neq (lf 0 5) (lf 1 5))
 f) t (b .lss (lf 4 5) 0)) (xt 1)^kq (p (b .eql (lf 4 4) (i 0)) t (b .lss (lf 4 5) (lf 4 4))) (w 7 4 (lt 7 5)))^s [(8,ad 8 (i 1))])))^(w 7 2 (lt 7 4)^s [(3,i
 0)])^r
def PQ:Stm:=
 s [(3,i 0),(2,.cst u)]^(s [(9,i 0),(8,ln 0),(7,0)]^bk 0 (lo (k (b .lss 9 8) e (xt 0)^bk 1 (s [(4,ld (ia 1 7 9))]^kq (p (b .lss 4 (i 0)) t (b .gtr 4 (i
 255))) (s [(3,i 3),(2,.cst u)]^r))^s [(9,ad 9 (i 1))])))^kq (b .gtr 1 (i 8192)) (s [(3,i 4),(2,.cst u)]^r)^kq (b .lss 1 (ln 0)) (s [(3,i 16),(2,.cst
 u)]^r)^(h 10 (.mkSl [z]) (c2 1 1)^s [(5,10)])^v (.cpy 1) (c2 5 0)^(s [(6,ln 0)]^bk 2 (lo (k (b .lss 6 1) e (xt 2)^bk 3 (w 1 (ia 1 5 6) (i 129)^kq (b .gtr 6
 (ln 0)) (w 1 (ia 1 5 6) (ad (ld (ia 1 5 6)) (ad (b .rem (b .mul (i 149) (ad 6 (i 1))) (i 253)) (i 1))))^kq (b .gtr (ld (ia 1 5 6)) (i 254)) (w 1 (ia 1 5 6) (b
 .sub (ld (ia 1 5 6)) (i 254))))^s [(6,ad 6 (i 1))])))^s [(3,i 0),(2,5)]^r
def PR:Stm:=
 (h 2 .box (c1 1)^h 3 (.alloc [z,z,u]) .nil^s [(4,i 0)])^(hh [(14,lt 7 2)] 13 (.call true) (c1 (fn 55))^h 15 .callC (c3 (fn 54) 13 14)^kq (n1 (.un .not) 15)
 ((w 3 3 (.node (.build [z,z,u] []) .nil)^s [(4,i 14)])^r))^kq (b .neq (ln 0) (ad (lf 4 2) (lf 5 2))) ((w 3 3 (.node (.build [z,z,u] []) .nil)^s [(4,i
 7)])^r)^(s [(18,i 0),(17,ln 0),(16,0)]^bk 0 (lo (k (b .lss 18 17) e (xt 0)^bk 1 (s [(5,ld (ia 1 16 18))]^kq (p (b .lss 5 (i 0)) t (b .gtr 5 (i 255)))
 ((w 3 3 (.node (.build [z,z,u] []) .nil)^s [(4,i 3)])^r))^s [(18,ad 18 (i 1))])))^(cl 19 77 (c1 (lt 7 2))^s [(7,ix 1 19),(6,ix 0 19)])^(cl 20 78 (c2 6
 7)^s [(8,20)])^(hh [(22,lf 0 2),(21,lf 1 2)] 23 (.mkSl [.bool false]) (c2 (b .mul (lf 0 2) (lf 1 2)) (b .mul (lf 0 2) (lf 1 2)))^hh [(24,.node (.build
 [z,z,u] [(0,1),(1,1),(2,1)]) (c3 21 22 23))] 9 (.alloc [z,z,u]) .nil^w 3 9 24)^(s [(26,i 0),(25,ln (lf 2 9))]^bk 2 (lo (k (b .lss 26 25) e (xt
 2)^bk 3 (s [(10,26)]^(h 27 .callC (c (fn 79) (c3 (lt 7 2) (b .quo 10 (lf 0 9)) (b .rem 10 (lf 0 9))))^h 11 (.alloc [.bool false,.bool false,z]) .nil^w 3 11
 27)^kq (lf 0 11) (w 1 (ia 1 (lf 2 9) 10) (lf 1 11)^xt 3)^s [(12,ld (ia 1 8 (lf 2 11)))]^k (b .geq 12 (i 0)) (w 1 (ia 1 (lf 2 9) 10) (b .eql (b .and (b .shr
 (ld (ia 1 0 (b .quo 12 (i 8)))) (b .sub (i 7) (b .rem 12 (i 8)))) (i 1)) (i 1))) (hh [(29,10),(28,lf 2 9)] 30 (.call true) (c (fn 80) (c3 6 7 (lf 2 11)))^w
 1 (ia 1 28 29) 30))^s [(26,ad 26 (i 1))])))^(w 3 3 (lt 3 9)^s [(4,i 0)])^r
def Rf:CF:=⟨2,31,[(.node (.ld 3 true) (.cons (.var 3) .nil)),(.var 4)],PR,.plain⟩
def PS:Stm:=
 (h 1 .box (c1 0)^hh [(2,.cst u)] 3 (.alloc [z,z,z,z,z,z,z]) .nil^s [(4,i 0)])^(cl 14 86 (c1 (lt 3 1))^kq (n1 (.un .not) 14) ((Stm.hv [(2,.cst u)] [] []
 none (.st 7) (c2 3 (.node (.build [z,z,z,z,z,z,z] []) .nil))^s [(4,i 1)])^r))^(cl 15 55 .nil^s [(5,15)])^(cl 16 87 (c2 5 (n1 (.mkF 88 0) 1))^s [(6,
 16)])^kq (b .lss 6 (i 0)) ((Stm.hv [(2,.cst u)] [] [] none (.st 7) (c2 3 (.node (.build [z,z,z,z,z,z,z] []) .nil))^s [(4,i 23)])^r)^(hh [(17,lt 7 (ia
 7 5 6))] 7 (.alloc [z,z,z,z,z,z,z]) .nil^w 7 7 17)^(cl 18 77 (c1 (lt 7 7))^cl 19 78 (c2 (ix 0 18) (ix 1 18))^s [(8,19)])^(h 20 (.mkSl [z]) (c2 (ad (lf
 4 7) (lf 5 7)) (ad (lf 4 7) (lf 5 7)))^s [(9,20)])^(s [(23,i 0),(22,ln (lf 2 1)),(21,lf 2 1)]^bk 0 (lo (k (b .lss 23 22) e (xt 0)^bk 1 (s [(11,ld (ia 1
 21 23)),(10,23)]^(h 24 .callC (c (fn 79) (c3 (lt 7 7) (b .quo 10 (lf 0 1)) (b .rem 10 (lf 0 1))))^h 12 (.alloc [.bool false,.bool false,z]) .nil^w 3 12
 24)^kq (lf 0 12) (kq (n2 (.eqB true) 11 (lf 1 12)) ((Stm.hv [(2,.cst u)] [] [] none (.st 7) (c2 3 (.node (.build [z,z,z,z,z,z,z] []) .nil))^s [(4,i
 18)])^r)^xt 1)^s [(13,ld (ia 1 8 (lf 2 12)))]^kq (p (b .geq 13 (i 0)) 11 f) (w 1 (ia 1 9 (b .quo 13 (i 8))) (b .or (ld (ia 1 9 (b .quo 13 (i 8)))) (b .shl (i
 1) (b .sub (i 7) (b .rem 13 (i 8)))))))^s [(23,ad 23 (i 1))])))^(Stm.hv [(2,9)] [] [] none (.st 7) (c2 3 (lt 7 7))^s [(4,i 0)])^r
def Rg:CF:=⟨1,25,[(.var 2),(.node (.ld 7 true) (.cons (.var 3) .nil)),(.var 4)],PS,.plain⟩
def PT:Stm:=
 s [(2,i 0),(1,.cst u)]^(s [(9,i 0),(8,ln 0),(7,0)]^bk 0 (lo (k (b .lss 9 8) e (xt 0)^bk 1 (s [(3,ld (ia 1 7 9))]^kq (p (b .lss 3 (i 0)) t (b .gtr 3 (i
 255))) (s [(2,i 3),(1,.cst u)]^r))^s [(9,ad 9 (i 1))])))^kq (b .gtr (ln 0) (i 8192)) (s [(2,i 4),(1,.cst u)]^r)^(h 10 .box (c1 (n1 (.build [u,z,u]
 [(0,1)]) 0))^s [(4,10)])^bk 2 (lo (k (b .lss (lf 1 (nk 4)) (ln 0)) e (xt 2)^bk 3 (s [(5,ld (ia 1 0 (lf 1 (nk 4))))]^w 1 (fa 1 (nk 4)) (ad (lf 1 (nk 4)) (i
 1))^kq (b .eql 5 (i 129)) (xt 2)^(cl 11 89 (c2 4 5)^s [(6,11)])^kq (b .neq 6 (i 0)) (s [(2,6),(1,.cst u)]^r))))^s [(2,i 0),(1,lf 2 (nk 4))]^r
def MQ:Stm:=
 (h 2 .box (c1 1)^s [(3,f)])^(cl 4 99 (c2 0 (lt 7 2))^s [(3,b .geq 4 (i 0))])^r
def RT:List Nat:=[0,1,2,3,4,35,36,37,38,40,41]
def PU:Stm:=
 (h 2 (.alloc [z,z,z]) .nil^s [(3,i 0)])^kq (p (b .lss 0 (i 1)) t (b .gtr 0 (i 12))) ((w 3 2 (.node (.build [z,z,z] []) .nil)^s [(3,i 3)])^r)^(hh [(5,
 .node (.build [z,z,z] [(0,1),(1,1),(2,1)]) (c3 (i 2) (b .shl (i 1) 0) 1))] 4 (.alloc [z,z,z]) .nil^w 3 4 5)^(cl 6 100 (c1 (lt 3 4))^kq (n1 (.un .not)
 6) ((w 3 2 (.node (.build [z,z,z] []) .nil)^s [(3,i 38)])^r))^(w 3 2 (lt 3 4)^s [(3,i 0)])^r
def PV:Stm:=
 (h 3 .box (c1 0)^h 4 (.alloc [z,z,z,z,z]) .nil^s [(5,i 0)])^(cl 6 100 (c1 (lt 3 3))^kq (n1 (.un .not) 6) ((w 5 4 (.node (.build [z,z,z,z,z] []) .nil)^s
 [(5,i 1)])^r))^(cl 7 101 (c3 (lt 3 3) 1 2)^kq (n1 (.un .not) 7) ((w 5 4 (.node (.build [z,z,z,z,z] []) .nil)^s [(5,i 3)])^r))^(w 5 4 (.node (.build [z,
 z,z,z,z] [(0,3),(3,1),(4,1)]) (c3 (lt 3 3) 1 2))^s [(5,i 0)])^r
def PW:Stm:=
 (h 2 .box (c1 0)^s [(3,f)])^(cl 4 100 (c1 (lt 3 (fa 0 2)))^Stm.hv [(5,4)] [] [(4,true)] (some 6) (.call false) (c (fn 101) (c3 (lt 3 (fa 0 2)) (lf 3 2) (lf 4
 2)))^Stm.hv [(7,p 5 6 f)] [] [(p 5 6 f,true)] (some 8) (.call false) (c3 (fn 102) (lt 3 (fa 0 2)) 1)^s [(3,p 7 8 f)])^r
def PX:Stm:=
 (h 2 .box (c1 0)^s [(3,f)])^s [(3,p (b .gtr 1 (lf 3 2)) (b .lss 1 (lf 1 (fa 0 2))) f)]^r
def PY:Stm:=
 (h 1 .box (c1 0)^s [(3,i 0),(2,.cst u)])^(cl 7 58 (c2 (lt 5 1) (.cst u))^kq (n1 (.un .not) 7) (s [(3,i 1),(2,.cst u)]^r))^(cl 8 71 (c1 (lt 3 (fa 0 1)))^h
 4 (.alloc [z,z,u,u]) .nil^w 4 4 8)^(h 9 (.mkSl [z]) (c2 (lf 3 1) (lf 3 1))^s [(5,9)])^(s [(11,i 0),(10,ln 5)]^bk 0 (lo (k (b .lss 11 10) e (xt 0)^bk 1
 (s [(6,11)]^hh [(13,6),(12,5)] 14 (.call false) (c3 (fn 103) (lt 4 4) (ad (lf 4 1) 6))^w 1 (ia 1 12 13) 14)^s [(11,ad 11 (i 1))])))^(cl 15 104 (c2 (lt 3
 (fa 0 1)) 5)^s [(3,ix 1 15),(2,ix 0 15)])^r
def PZ:Stm:=
 (h 3 .box (c1 0)^s [(6,i 0),(5,.cst u),(4,.cst u)])^(hh [(7,lt 3 3)] 8 (.bSl [u] 2 [0,1]) (c2 1 2)^cl 9 105 (c2 7 8)^kq (n1 (.un .not) 9) (s [(6,i 1),
 (5,.cst u),(4,.cst u)]^r))^kq (b .eql (ln 2) (i 0)) (s [(6,i 12),(5,.cst u),(4,.cst u)]^r)^(cl 10 106 (c1 (lt 3 3))^cl 11 107 (c3 10 1 2)^s [(5,ix 1
 11),(4,ix 0 11)])^s [(6,i 0),(5,5),(4,4)]^r
def MR:Stm:=
 s [(1,.cst u)]^s [(2,ln 0)]^bk 0 (lo (k (p (b .gtr 2 (i 0)) (b .eql (ld (ia 1 0 (b .sub 2 (i 1)))) (i 0)) f) e (xt 0)^bk 1 (s [(2,b .sub 2 (i 1))])))^(h 3
 (.app 1 [z]) (c2 (.cst u) (n2 (.sl 1 false true false) 0 2))^s [(1,3)])^r
def P0:Stm:=
 (h 3 .box (c1 0)^s [(5,i 0),(4,i 0)])^(hh [(6,lt 3 3)] 7 (.bSl [z] 2 [0,1]) (c2 1 2)^cl 8 108 (c2 6 7)^kq (n1 (.un .not) 8) (s [(5,i 1),(4,i 0)]^r))^kq
 (b .neq (lf 2 3) (i 0)) (s [(5,i 0),(4,b .xor 1 2)]^r)^s [(5,i 0),(4,b .rem (ad (b .sub 1 2) (lf 1 3)) (lf 1 3))]^r
def P1:Stm:=
 (h 1 .box (c1 0)^h 2 (.alloc [z,z,u,u]) .nil)^(cl 7 114 (c1 (lt 3 1))^Stm.sets [(3,ix 0 7)] [ix 1 7])^(hh [(11,lf 1 1),(9,lf 1 1),(8,lf 0 1)] 10 (.mkSl
 [z]) (c2 (b .sub (lf 1 1) (i 1)) (b .sub (lf 1 1) (i 1)))^h 12 (.mkSl [z]) (c2 11 11)^hh [(13,.node (.build [z,z,u,u] [(0,1),(1,1),(2,1),(3,1)]) (c
 8 (c3 9 10 12)))] 4 (.alloc [z,z,u,u]) .nil^w 4 4 13)^s [(5,i 1)]^(s [(15,i 0),(14,ln (lf 2 4))]^bk 0 (lo (k (b .lss 15 14) e (xt 0)^bk 1 (s [(6,
 15)]^(Stm.hv [(20,ia 1 (lf 2 4) 6),(19,6),(18,5),(17,lf 3 4),(16,fa 3 4)] [] [] none (.st 1) (c2 (ia 1 (lf 2 4) 6) 5)^w 1 (ia 1 17 18) 19^Stm.dist 20
 16)^cl 21 115 (c3 (lt 3 1) 5 3)^Stm.sets [(5,ix 0 21)] [ix 1 21])^s [(15,ad 15 (i 1))])))^w 4 2 (lt 4 4)^r
def P2:Stm:=
 s [(1,f)]^(h 4 (.bSl [.nilFunc] 6 [0,1,2,3,4,5]) (c (n1 (.mkF 116 1) 0) (c (n1 (.mkF 117 1) 0) (c (n1 (.mkF 118 1) 0) (c3 (n1 (.mkF 119 1) 0) (n1 (.mkF
 120 1) 0) (n1 (.mkF 121 1) 0)))))^s [(2,4)])^(s [(7,i 0),(6,ln 2),(5,2)]^bk 0 (lo (k (b .lss 7 6) e (xt 0)^bk 1 (s [(3,ld (ia 1 5 7))]^h 8 (.call
 false) (c1 3)^kq (n1 (.un .not) 8) (s [(1,f)]^r))^s [(7,ad 7 (i 1))])))^s [(1,t)]^r
def P3:Stm:=
 s [(1,.cst (.pointer none))]^(hh [(5,0)] 6 (.mkSl [z,z,z,z,z,z,z,z,z,z,z,z,z,z,z,z,z,z,z]) (c2 (ad (ln 0) (i 1)) (ad (ln 0) (i 1)))^h 7 .box
 (c1 (n2 (.build [u,u] [(0,1),(1,1)]) 5 6))^s [(2,7)])^(s [(3,ln 0)]^bk 0 (lo (k (b .geq 3 (i 0)) e (xt 0)^bk 1 ((s [(8,i 0)]^bk 2 (lo (k (b .lss 8 (i
 19)) e (xt 2)^bk 3 (s [(4,8)]^w 1 (n2 (.iAddrA 19 1) (ia 19 (lf 1 (nk 2)) 3) 4) (i 1073741824))^s [(8,ad 8 (i 1))])))^kq (b .eql 3 (ln 0)) (w 1 (n2 (.iAddrA
 19 1) (ia 19 (lf 1 (nk 2)) 3) (i 0)) (i 0))^v (.call false) (c3 (fn 128) 2 3))^s [(3,b .sub 3 (i 1))])))^s [(1,2)]^r
def m9:Stm:=
 s [(1,.cst u)]^Stm.scope ((h 8 (.mkSl [z]) (c2 (i 0) (ld (n2 (.iAddrA 19 1) (ia 19 (lf 1 (nk 0)) (i 0)) (i 0))))^s [(2,8)])^s [(4,i 0),(3,i 0)]^h 5 (.alloc
 [z,z,z,z,z,z,z]) .nil^e^kq (p (b .eql 4 (i 0)) (b .eql 3 (ln (lf 0 (nk 0)))) f) (s [(1,2)]^r)^(cl 9 129 (c3 0 3 4)^w 7 5 9)^kq (b .gtr (lf 4 5) (i 0))
 (xt 1000001)^(h 10 (.app 1 [z]) (c2 2 (n2 (.slA 3 1 false true false) (fa 0 5) (lf 3 5)))^s [(2,10)])^xt 1000002^e^(hh [(11,2)] 12 (.bSl [z] 1 [0]) (c1 (ld
 (n2 (.iAddrA 3 1) (fa 0 5) (i 0))))^h 13 (.app 1 [z]) (c2 11 12)^s [(2,13)])^(s [(16,i 0),(15,ln (.node (.slA 3 1 true true false) (c3 (fa 0 5) (i 1) (lf
 3 5)))),(14,.node (.slA 3 1 true true false) (c3 (fa 0 5) (i 1) (lf 3 5)))]^bk 0 (lo (k (b .lss 16 15) e (xt 0)^bk 1 (s [(6,ld (ia 1 14 16))]^hh [(18,6),
 (17,2)] 19 (.call false) (c2 (fn 130) (ln 2))^h 20 (.bSl [z] 1 [0]) (c1 (b .rem (ad 18 19) (i 256)))^h 21 (.app 1 [z]) (c2 17 20)^s [(2,21)])^s [(16,ad 16
 (i 1))])))^(s [(24,i 0),(23,ln (.node (.sl 1 true true false) (c3 (lf 0 (nk 0)) 3 (ad 3 (lf 4 5))))),(22,.node (.sl 1 true true false) (c3 (lf 0 (nk 0))
 3 (ad 3 (lf 4 5))))]^bk 2 (lo (k (b .lss 24 23) e (xt 2)^bk 3 (s [(7,ld (ia 1 22 24))]^hh [(26,n1 (.cvt .i64) 7),(25,2)] 27 (.call false) (c2 (fn 130) (ln
 2))^h 28 (.bSl [z] 1 [0]) (c1 (b .rem (ad 26 27) (i 256)))^h 29 (.app 1 [z]) (c2 25 28)^s [(2,29)])^s [(24,ad 24 (i 1))])))^e^s [(4,lf 6 5),(3,lf 5
 5)]^xt 1000000) (.alt 0 (e^kq (p (b .eql 4 (i 0)) (b .eql 3 (ln (lf 0 (nk 0)))) f) (s [(1,2)]^r)^(cl 9 129 (c3 0 3 4)^w 7 5 9)^kq (b .gtr (lf 4 5) (i 0)) (xt
 1000001)^(h 10 (.app 1 [z]) (c2 2 (n2 (.slA 3 1 false true false) (fa 0 5) (lf 3 5)))^s [(2,10)])^xt 1000002^e^(hh [(11,2)] 12 (.bSl [z] 1 [0]) (c1 (ld (n2
 (.iAddrA 3 1) (fa 0 5) (i 0))))^h 13 (.app 1 [z]) (c2 11 12)^s [(2,13)])^(s [(16,i 0),(15,ln (.node (.slA 3 1 true true false) (c3 (fa 0 5) (i 1) (lf 3
 5)))),(14,.node (.slA 3 1 true true false) (c3 (fa 0 5) (i 1) (lf 3 5)))]^bk 0 (lo (k (b .lss 16 15) e (xt 0)^bk 1 (s [(6,ld (ia 1 14 16))]^hh [(18,6),
 (17,2)] 19 (.call false) (c2 (fn 130) (ln 2))^h 20 (.bSl [z] 1 [0]) (c1 (b .rem (ad 18 19) (i 256)))^h 21 (.app 1 [z]) (c2 17 20)^s [(2,21)])^s [(16,ad 16
 (i 1))])))^(s [(24,i 0),(23,ln (.node (.sl 1 true true false) (c3 (lf 0 (nk 0)) 3 (ad 3 (lf 4 5))))),(22,.node (.sl 1 true true false) (c3 (lf 0 (nk 0))
 3 (ad 3 (lf 4 5))))]^bk 2 (lo (k (b .lss 24 23) e (xt 2)^bk 3 (s [(7,ld (ia 1 22 24))]^hh [(26,n1 (.cvt .i64) 7),(25,2)] 27 (.call false) (c2 (fn 130) (ln
 2))^h 28 (.bSl [z] 1 [0]) (c1 (b .rem (ad 26 27) (i 256)))^h 29 (.app 1 [z]) (c2 25 28)^s [(2,29)])^s [(24,ad 24 (i 1))])))^e^s [(4,lf 6 5),(3,lf 5
 5)]^xt 1000000) (.alt 1 (e^(hh [(11,2)] 12 (.bSl [z] 1 [0]) (c1 (ld (n2 (.iAddrA 3 1) (fa 0 5) (i 0))))^h 13 (.app 1 [z]) (c2 11 12)^s [(2,13)])^(s [(16,i
 0),(15,ln (.node (.slA 3 1 true true false) (c3 (fa 0 5) (i 1) (lf 3 5)))),(14,.node (.slA 3 1 true true false) (c3 (fa 0 5) (i 1) (lf 3 5)))]^bk 0 (lo (k
 (b .lss 16 15) e (xt 0)^bk 1 (s [(6,ld (ia 1 14 16))]^hh [(18,6),(17,2)] 19 (.call false) (c2 (fn 130) (ln 2))^h 20 (.bSl [z] 1 [0]) (c1 (b .rem (ad 18
 19) (i 256)))^h 21 (.app 1 [z]) (c2 17 20)^s [(2,21)])^s [(16,ad 16 (i 1))])))^(s [(24,i 0),(23,ln (.node (.sl 1 true true false) (c3 (lf 0 (nk 0)) 3 (ad
 3 (lf 4 5))))),(22,.node (.sl 1 true true false) (c3 (lf 0 (nk 0)) 3 (ad 3 (lf 4 5))))]^bk 2 (lo (k (b .lss 24 23) e (xt 2)^bk 3 (s [(7,ld (ia 1 22
 24))]^hh [(26,n1 (.cvt .i64) 7),(25,2)] 27 (.call false) (c2 (fn 130) (ln 2))^h 28 (.bSl [z] 1 [0]) (c1 (b .rem (ad 26 27) (i 256)))^h 29 (.app 1 [z]) (c2
 25 28)^s [(2,29)])^s [(24,ad 24 (i 1))])))^e^s [(4,lf 6 5),(3,lf 5 5)]^xt 1000000) (.alt 2 (e^s [(4,lf 6 5),(3,lf 5 5)]^xt 1000000) (kq .nil e))))
def P4:Stm:=
 (h 1 .box (c1 0)^s [(3,i 0),(2,i 0)])^s [(3,b .mul (b .quo (lf 1 1) (ad (lf 3 1) (i 2))) (lf 3 1)),(2,b .mul (b .quo (lf 0 1) (ad (lf 2 1) (i 2))) (lf 2
 1))]^r
def P5:Stm:=
 s [(2,.cst u)]^(hh [(11,1),(10,0)] 12 (.bSl [z] 1 [0]) (c1 (i (-1)))^cl 13 131 (c2 12 (b .mul 0 1))^h 14 .box (c1 (.node (.build [z,z,u,z] [(0,1),(1,
 1),(2,1)]) (c3 10 11 13)))^s [(3,14)])^s [(4,n1 (.mkF 132 1) 3)]^s [(6,i 0),(5,i 4)]^(s [(7,t)]^bk 0 (lo (k 7 e (xt 0)^bk 1 (v (.call false) (c (fn
 133) (c 3 (c3 5 6 4)))^(s [(8,t)]^bk 2 (lo (k 8 e (xt 2)^bk 3 ((cl 15 134 (c3 3 5 6)^kq 15 (v (.call false) (c (fn 135) (c 3 (c3 5 6 4)))))^s [(6,ad 6 (i
 2)),(5,b .sub 5 (i 2))])^s [(8,p (b .geq 5 (i 0)) (b .lss 6 1) f)])))^s [(6,ad 6 (i 3)),(5,ad 5 (i 1))]^(s [(9,t)]^bk 4 (lo (k 9 e (xt 4)^bk 5 ((cl 16
 134 (c3 3 5 6)^kq 16 (v (.call false) (c (fn 135) (c 3 (c3 5 6 4)))))^s [(6,b .sub 6 (i 2)),(5,ad 5 (i 2))])^s [(9,p (b .lss 5 0) (b .geq 6 (i 0))
 f)])))^s [(6,ad 6 (i 1)),(5,ad 5 (i 3))])^s [(7,p (b .lss 5 0) t (b .lss 6 1))])))^s [(2,lf 2 (nk 3))]^r
def Rh:CF:=⟨2,17,[(.var 2)],P5,.plain⟩
def P6:Stm:=
 (h 3 .box (c1 0)^h 4 (.alloc [.bool false,.bool false,z]) .nil)^s [(6,ad (lf 3 3) (i 2)),(5,ad (lf 2 3) (i 2))]^s [(8,b .rem 2 6),(7,b .rem 1 5)]^bk 0
 (k (p (b .eql 8 (i 0)) t (b .eql 7 (b .sub 5 (i 1)))) (w 3 4 (n2 (.build [.bool false,.bool false,z] [(0,1),(1,1)]) t t)^r) (k (b .eql 7 (i 0)) (w 3 4
 (n2 (.build [.bool false,.bool false,z] [(0,1),(1,1)]) t (b .eql (b .rem 8 (i 2)) (i 0)))^r) (kq (b .eql 8 (b .sub 6 (i 1))) (w 3 4 (n2 (.build [.bool
 false,.bool false,z] [(0,1),(1,1)]) t (b .eql (b .rem 7 (i 2)) (i 1)))^r))))^(cl 10 77 (c1 (lt 7 3))^Stm.sets [(9,ix 1 10)] [ix 0 10])^w 3 4 (n1 (.build
 [.bool false,.bool false,z] [(2,1)]) (b .sub (ad (ad (b .mul (b .sub (ad (b .mul (b .quo 1 5) (lf 2 3)) 7) (i 1)) 9) (b .mul (b .quo 2 6) (lf 3 3))) 8) (i
 1)))^r
def P7:Stm:=
 s [(3,f)]^s [(5,b .rem 2 1),(4,b .quo 2 1)]^s [(3,p (p (b .eql 4 (b .sub 0 (i 2))) (b .eql 5 (b .sub 1 (i 2))) f) t (p (b .eql 4 (b .sub 0 (i 1))) (b .eql
 5 (b .sub 1 (i 1))) f))]^r
def P8:Stm:=
 (h 1 .box (c1 0)^s [(2,f)])^s [(2,p (p (p (p (p (b .geq (lf 0 1) (i 1)) (b .leq (lf 0 1) (i 4096)) f) (b .geq (lf 1 1) (i 1)) f) (b .leq (lf 1 1) (i 4096)) f)
 (b .leq (b .mul (lf 0 1) (lf 1 1)) (i 4194304)) f) (b .eql (ln (lf 2 1)) (b .mul (lf 0 1) (lf 1 1))) f)]^r
def P9:Stm:=
 s [(2,i 0)]^(s [(5,i 0),(4,ln 0)]^bk 0 (lo (k (b .lss 5 4) e (xt 0)^bk 1 (s [(3,5)]^h 6 (.call false) (c2 1 (lt 7 (ia 7 0 3)))^kq 6 (s [(2,3)]^r))^s [(5,
 ad 5 (i 1))])))^s [(2,i (-1))]^r
def Pa:Stm:=
 (h 2 .box (c1 0)^s [(3,f)])^s [(3,p (b .eql (lf 0 2) (lf 1 1)) (b .eql (lf 1 2) (lf 0 1)) f)]^r
def Pb:Stm:=
 s [(2,i 0)]^bk 0 (k (p (b .geq 1 (i 1)) (b .leq 1 (i 128)) f) ((hh [(5,lf 2 (nk 0)),(4,0)] 6 (.bSl [.int .u8 0] 1 [0]) (c1 (n1 (.cvt .u8) (b .sub 1 (i
 1))))^h 7 (.app 1 [.int .u8 0]) (c2 5 6)^w 1 (fa 2 (nk 4)) 7)^s [(2,i 0)]^r) (kq (p (b .geq 1 (i 130)) (b .lss 1 (i 230)) f) (s [(3,b .sub 1 (i 130))]^(hh
 [(9,lf 2 (nk 0)),(8,0)] 10 (.bSl [.int .u8 0] 2 [0,1]) (c2 (n1 (.cvt .u8) (ad (i 48) (b .quo 3 (i 10)))) (n1 (.cvt .u8) (ad (i 48) (b .rem 3 (i 10)))))^h
 11 (.app 1 [.int .u8 0]) (c2 9 10)^w 1 (fa 2 (nk 8)) 11)^s [(2,i 0)]^r)))^(s [(12,1)]^bk 1 (k (b .eql 12 (i 235)) ((cl 13 138 (c1 0)^s [(2,13)])^r) (k (b
 .eql 12 (i 230)) ((cl 14 139 (c2 0 f)^s [(2,14)])^r) (k (b .eql 12 (i 239)) ((cl 15 139 (c2 0 t)^s [(2,15)])^r) (k (b .eql 12 (i 231)) ((cl 16 140 (c1 0)^s
 [(2,16)])^r) (k (b .eql 12 (i 238)) ((cl 17 141 (c1 0)^s [(2,17)])^r) (kq (b .eql 12 (i 240)) ((cl 18 142 (c1 0)^s [(2,18)])^r))))))))^s [(2,i 22)]^r
def MS:Stm:=
 (h 2 .box (c1 1)^s [(3,i 0)])^(s [(6,i 0),(5,ln 0)]^bk 0 (lo (k (b .lss 6 5) e (xt 0)^bk 1 (s [(4,6)]^kq (n2 (.eqA false [1,1,1,1,1,1,1]) (lt 7 2)
 (lt 7 (ia 7 0 4))) (s [(3,4)]^r))^s [(6,ad 6 (i 1))])))^s [(3,i (-1))]^r
def KS:Stm:=
 (h 1 .box (c1 0)^s [(2,f)])^kq (b .eql (lf 2 1) (i 0)) ((Stm.hv [(3,p (p (b .gtr (lf 1 1) (i 2)) (b .leq (lf 1 1) (i 4096)) f) (n2 (.eqA false [1,1,1]) (lt
 3 1) (n2 (.build [z,z,z] [(0,1),(1,1)]) (lf 1 1) (lf 1 1))) f)] [] [(p (p (b .gtr (lf 1 1) (i 2)) (b .leq (lf 1 1) (i 4096)) f) (n2 (.eqA false [1,1,
 1]) (lt 3 1) (n2 (.build [z,z,z] [(0,1),(1,1)]) (lf 1 1) (lf 1 1))) f,true)] (some 4) (.call false) (c2 (fn 148) (lf 1 1))^s [(2,p 3 4 f)])^r)^(Stm.hv
 [(5,b .lss (lf 2 1) (i 2))] [] [(b .lss (lf 2 1) (i 2),false)] (some 6) (.call false) (c2 (fn 149) (lf 2 1))^kq (p 5 t (b .gtr 6 (i 12))) (s [(2,
 f)]^r))^(hh [(9,lf 2 1),(7,lt 3 1)] 8 (.call true) (c2 (fn 149) (lf 2 1))^Stm.hv [(10,n2 (.eqA false [1,1,1]) 7 (.node (.build [z,z,z] [(0,1),(1,
 1),(2,1)]) (c3 (i 2) (b .shl (i 1) 8) 9)))] [] [(n2 (.eqA false [1,1,1]) 7 (.node (.build [z,z,z] [(0,1),(1,1),(2,1)]) (c3 (i 2) (b .shl (i 1) 8)
 9)),true)] (some 11) .callC (c2 (fn 150) (lf 2 1))^s [(2,p 10 11 f)])^r
def KT:Stm:=
 (h 3 .box (c1 0)^s [(4,f)])^s [(4,p (p (p (b .geq 1 (i 1)) (b .leq 1 (b .sub (lf 1 3) (i 2))) f) (b .geq 2 (i 0)) f) (b .leq 2 (b .sub (lf 1 3) (i 2))) f)]^r
def KU:Stm:=
 (h 2 .box (c1 0)^s [(3,f)])^(s [(7,i 0),(6,ln 1),(5,1)]^bk 0 (lo (k (b .lss 7 6) e (xt 0)^bk 1 (s [(4,ld (ia 1 5 7))]^kq (p (b .lss 4 (i 0)) t (b .geq 4
 (lf 1 2))) (s [(3,f)]^r))^s [(7,ad 7 (i 1))])))^s [(3,t)]^r
def KV:Stm:=
 (h 2 .box (c1 0)^s [(3,i 0)])^s [(3,ld (ia 1 (lf 2 2) (b .rem 1 (b .sub (lf 1 2) (i 1)))))]^r
def KW:Stm:=
 (h 2 .box (c1 0)^s [(4,i 0),(3,.cst u)])^(cl 8 105 (c2 (lt 3 2) (.cst u))^Stm.hv [(9,n1 (.un .not) 8)] [] [(n1 (.un .not) 8,false)] (some 10) (.call false)
 (c3 (fn 151) (lt 3 2) 1)^kq (p 9 t (n1 (.un .not) 10)) (s [(4,i 1),(3,.cst u)]^r))^kq (b .gtr (ln 1) (i 4096)) (s [(4,i 4),(3,.cst u)]^r)^(cl 11 106 (c1
 (lt 3 2))^h 5 (.alloc [z,z,u,u]) .nil^w 4 5 11)^(h 12 (.bSl [z] 1 [0]) (c1 (i 1))^s [(6,12)])^(s [(15,i 0),(14,ln 1),(13,1)]^bk 0 (lo (k (b .lss 15
 14) e (xt 0)^bk 1 (s [(7,ld (ia 1 13 15))]^cl 16 152 (c (lt 4 5) (c3 6 7 (i 0)))^s [(6,16)])^s [(15,ad 15 (i 1))])))^s [(4,i 0),(3,6)]^r
def D9:Stm:=
 (h 2 .box (c1 0)^s [(3,f)])^(cl 6 100 (c1 (lt 3 2))^kq (n1 (.un .not) 6) (s [(3,f)]^r))^(s [(9,i 0),(8,ln 1),(7,1)]^bk 0 (lo (k (b .lss 9 8) e (xt 0)^bk
 1 (s [(4,ld (ia 1 7 9))]^s [(5,ln 4)]^Stm.hv [(10,p (b .gtr 5 (i 4097)) t (p (b .gtr 5 (i 0)) (b .eql (ld (ia 1 4 (b .sub 5 (i 1)))) (i 0)) f))] [] [(p (b
 .gtr 5 (i 4097)) t (p (b .gtr 5 (i 0)) (b .eql (ld (ia 1 4 (b .sub 5 (i 1)))) (i 0)) f),false)] (some 11) (.call false) (c3 (fn 151) (lt 3 2) 4)^kq (p 10 t
 (n1 (.un .not) 11)) (s [(3,f)]^r))^s [(9,ad 9 (i 1))])))^s [(3,t)]^r
def KX:Stm:=
 (h 1 .box (c1 0)^h 2 (.alloc [z,z,u,u]) .nil)^(cl 7 114 (c1 (lt 3 1))^Stm.sets [(3,ix 0 7)] [ix 1 7])^(hh [(11,lf 1 1),(9,lf 1 1),(8,lf 0 1)] 10 (.mkSl
 [z]) (c2 (b .sub (lf 1 1) (i 1)) (b .sub (lf 1 1) (i 1)))^h 12 (.mkSl [z]) (c2 11 11)^hh [(13,.node (.build [z,z,u,u] [(0,1),(1,1),(2,1),(3,1)]) (c
 8 (c3 9 10 12)))] 4 (.alloc [z,z,u,u]) .nil^w 4 4 13)^s [(5,i 1)]^(s [(15,i 0),(14,ln (lf 2 4))]^bk 0 (lo (k (b .lss 15 14) e (xt 0)^bk 1 (s [(6,
 15)]^(Stm.hv [(20,ia 1 (lf 2 4) 6),(19,6),(18,5),(17,lf 3 4),(16,fa 3 4)] [] [] none (.st 1) (c2 (ia 1 (lf 2 4) 6) 5)^w 1 (ia 1 17 18) 19^Stm.dist 20
 16)^cl 21 115 (c3 (lt 3 1) 5 3)^Stm.sets [(5,ix 0 21)] [ix 1 21])^s [(15,ad 15 (i 1))])))^w 4 2 (lt 4 4)^r
def KY:Stm:=
 (h 3 .box (c1 0)^s [(5,.cst u),(4,.cst u)])^(h 11 (.app 1 [z]) (c2 (.cst u) 1)^s [(5,11)])^s [(6,b .sub (ln 2) (i 1))]^kq (b .gtr (ln 1) 6) (h 12 (.mkSl
 [z]) (c2 (b .sub (ln 1) 6) (b .sub (ln 1) 6))^s [(4,12)])^(s [(7,b .sub (ln 4) (i 1))]^bk 0 (lo (k (b .geq 7 (i 0)) e (xt 0)^bk 1 ((h 13 .callC (c (fn 153)
 (c3 (lt 4 3) (ld (ia 1 5 (ad 7 6))) (ld (ia 1 2 6))))^s [(8,13)])^w 1 (ia 1 4 7) 8^s [(16,i 0),(15,ln 2),(14,2)]^bk 2 (lo (k (b .lss 16 15) e (xt 2)^bk
 3 (s [(10,ld (ia 1 14 16)),(9,16)]^hh [(20,ld (ia 1 5 (ad 7 9))),(19,lt 4 3),(18,ad 7 9),(17,5)] 21 (.call true) (c (fn 155) (c3 (lt 4 3) 8 10))^h
 22 .callC (c (fn 154) (c3 19 20 21))^w 1 (ia 1 17 18) 22)^s [(16,ad 16 (i 1))])))^s [(7,b .sub 7 (i 1))])))^(hh [(23,4)] 24 (.call false) (c2 (fn 62) 5)^s
 [(5,24),(4,23)])^r
def KZ:Stm:=
 (h 2 .box (c1 0)^s [(3,f)])^(cl 5 100 (c1 (lt 3 2))^kq (n1 (.un .not) 5) (s [(3,f)]^r))^(s [(8,i 0),(7,ln 1),(6,1)]^bk 0 (lo (k (b .lss 8 7) e (xt 0)^bk
 1 (s [(4,ld (ia 1 6 8))]^kq (p (b .lss 4 (i 0)) t (b .geq 4 (lf 1 2))) (s [(3,f)]^r))^s [(8,ad 8 (i 1))])))^s [(3,t)]^r
def K0:Stm:=
 (h 1 .box (c1 0)^s [(3,i 0),(2,i 0)])^(cl 4 108 (c2 (lt 3 1) (.cst u))^kq (n1 (.un .not) 4) (s [(3,i 1),(2,i 0)]^r))^(cl 5 161 (c1 (lt 3 1))^s [(3,i 0),
 (2,5)])^r
def K1:Stm:=
 (h 3 .box (c1 0)^s [(5,i 0),(4,i 0)])^(hh [(6,lt 3 3)] 7 (.bSl [z] 2 [0,1]) (c2 1 2)^cl 8 108 (c2 6 7)^kq (n1 (.un .not) 8) (s [(5,i 1),(4,i 0)]^r))^(cl
 9 162 (c3 (lt 3 3) 1 2)^s [(5,i 0),(4,9)])^r
def K2:Stm:=
 s [(1,f)]^(hh [(2,0)] 3 .callC (c (fn 163) (c3 (lt 4 (fa 0 (nk 0))) (lt 5 (fa 4 (nk 0))) (lf 9 (nk 0))))^w 1 (fa 12 (nk 2)) 3)^s [(1,b .leq (lf 11 (nk 0))
 (lf 3 (fa 4 (nk 0))))]^r
def K7:Stm:=
 s [(1,f)]^(hh [(4,0)] 5 (.bSl [z] 1 [0]) (c1 (i 1))^w 1 (fa 13 (nk 4)) 5)^(s [(8,i 0),(7,ln (lf 10 (nk 0))),(6,lf 10 (nk 0))]^bk 0 (lo (k (b .lss 8 7) e
 (xt 0)^bk 1 (s [(3,ld (ia 1 6 8)),(2,8)]^kq 3 (hh [(13,lt 4 (fa 0 (nk 0))),(12,lf 13 (nk 0)),(11,lf 13 (nk 0)),(10,lt 4 (fa 0 (nk 0))),(9,0)] 14
 (.call true) (c3 (fn 165) 0 2)^h 15 (.call true) (c3 (fn 103) 13 14)^h 16 .callC (c (fn 164) (c 10 (c 11 (c3 12 (i 1) 15))))^w 1 (fa 13 (nk 9)) 16))^s [(8,ad
 8 (i 1))])))^s [(1,t)]^r
def K8:Stm:=
 s [(1,f)]^(h 3 .callC (c (fn 166) (c (lt 4 (fa 0 (nk 0))) (c3 (lf 12 (nk 0)) (lf 13 (nk 0)) (lf 3 (fa 4 (nk 0))))))^s [(2,3)])^(hh [(4,0)] 5 .callC (c3 (fn
 167) (lt 4 (fa 0 (nk 0))) (n2 (.sl 1 true false false) 2 (lf 11 (nk 0))))^w 1 (fa 14 (nk 4)) 5)^s [(1,b .leq (ad (b .mul (i 2) (b .sub (ln (lf 14 (nk 0))) (i
 1))) (lf 11 (nk 0))) (lf 3 (fa 4 (nk 0))))]^r
def K9:Stm:=
 s [(1,f)]^s [(2,i 0)]^(s [(8,i 0),(7,ln (lf 10 (nk 0))),(6,lf 10 (nk 0))]^bk 0 (lo (k (b .lss 8 7) e (xt 0)^bk 1 (s [(4,ld (ia 1 6 8)),(3,8)]^(hh
 [(10,b .sub (lf 1 (fa 0 (nk 0))) (i 1)),(9,lt 4 (fa 0 (nk 0)))] 11 (.call true) (c3 (fn 165) 0 3)^h 12 .callC (c3 (fn 103) 9 (b .sub 10 11))^s [(5,
 12)])^Stm.hv [(13,n1 (.un .not) 4)] [] [(n1 (.un .not) 4,true)] (some 14) .callC (c (fn 168) (c3 (lt 4 (fa 0 (nk 0))) (lf 14 (nk 0)) 5))^k (p 13 (b .eql 14
 (i 0)) f) (s [(2,ad 2 (i 1))]^hh [(16,lf 15 (nk 0)),(15,0)] 17 (.bSl [z] 1 [0]) (c1 3)^h 18 (.app 1 [z]) (c2 16 17)^w 1 (fa 15 (nk 15)) 18) (kq 4 (hh
 [(20,lf 15 (nk 0)),(19,0)] 21 (.bSl [z] 1 [0]) (c1 3)^h 22 (.app 1 [z]) (c2 20 21)^w 1 (fa 15 (nk 19)) 22)))^s [(8,ad 8 (i 1))])))^s [(1,b .eql 2 (b .sub
 (ln (lf 14 (nk 0))) (i 1)))]^r
def Ka:Stm:=
 s [(1,f)]^(h 9 .callC (c (fn 166) (c (lt 4 (fa 0 (nk 0))) (c3 (lf 13 (nk 0)) (lf 14 (nk 0)) (b .sub (ad (ln (lf 13 (nk 0))) (ln (lf 14 (nk 0)))) (i 1)))))^s
 [(2,9)])^(h 10 .callC (c (fn 166) (c (lt 4 (fa 0 (nk 0))) (c3 (lf 12 (nk 0)) 2 (lf 3 (fa 4 (nk 0))))))^s [(3,10)])^(cl 11 169 (c2 (lt 4 (fa 0 (nk 0))) 2)^s
 [(4,11)])^(s [(14,i 0),(13,ln (lf 15 (nk 0))),(12,lf 15 (nk 0))]^bk 0 (lo (k (b .lss 14 13) e (xt 0)^bk 1 (s [(5,ld (ia 1 12 14))]^(hh [(16,b .sub (lf
 1 (fa 0 (nk 0))) (i 1)),(15,lt 4 (fa 0 (nk 0)))] 17 (.call true) (c3 (fn 165) 0 5)^h 18 .callC (c3 (fn 103) 15 (b .sub 16 17))^s [(6,18)])^(hh [(21,b .sub
 (ad (lf 4 (fa 4 (nk 0))) (lf 1 (fa 0 (nk 0)))) (i 2)),(19,lt 4 (fa 0 (nk 0)))] 20 (.call true) (c3 (fn 165) 0 5)^h 22 .callC (c3 (fn 103) 19 (b .mul 20
 21))^s [(7,22)])^(hh [(24,7),(23,lt 4 (fa 0 (nk 0)))] 25 (.call true) (c (fn 168) (c3 (lt 4 (fa 0 (nk 0))) 4 6))^h 26 .callC (c (fn 170) (c3 23 24 25))^s
 [(8,26)])^kq (b .eql 8 (i 0)) (s [(1,f)]^r)^hh [(33,8),(31,lt 4 (fa 0 (nk 0))),(30,ld (ia 1 (lf 9 (nk 0)) 5)),(29,lt 4 (fa 0 (nk 0))),(28,5),(27,
 lf 9 (nk 0))] 32 (.call true) (c (fn 168) (c3 (lt 4 (fa 0 (nk 0))) 3 6))^h 34 (.call true) (c (fn 172) (c3 31 32 33))^h 35 (.call true) (c (fn 171) (c3 29 30
 34))^w 1 (ia 1 27 28) 35)^s [(14,ad 14 (i 1))])))^s [(1,t)]^r
def Kb:Stm:=
 s [(1,f)]^((hh [(5,i 0)] 3 .callC (c (fn 163) (c3 (lt 4 (fa 0 (nk 0))) (lt 5 (fa 4 (nk 0))) (lf 9 (nk 0))))^s [(4,ln 3)])^bk 0 (lo (k (b .lss 5 4) e (xt
 0)^bk 1 (s [(2,ld (ia 1 3 5))]^kq (b .neq 2 (i 0)) (s [(1,f)]^r))^s [(5,ad 5 (i 1))])))^s [(1,t)]^r
def Kc:Stm:=
 h 2 (.alloc [u,u,u,u,u,u,u,u,u,u,u,u,u,u,u,u,u,u,u]) .nil^(s [(9,i 0)]^bk 0 (lo (k (b .lss 9 (i 19)) e (xt 0)^bk 1 (s [(3,9)]^hh [(10,3)]
 11 (.call false) (c (fn 176) (c3 0 1 3))^w 1 (n2 (.iAddrA 19 1) 2 10) 11)^s [(9,ad 9 (i 1))])))^s [(4,t)]^bk 2 (lo (k 4 e (xt 2)^bk 3 (s [(4,f)]^s [(13,i
 0),(12,lt 19 2)]^bk 4 (lo (k (b .lss 13 (i 19)) e (xt 4)^bk 5 (s [(6,n2 (.idx 19 1 false) 12 13),(5,13)]^s [(16,i 0),(15,ln 6),(14,6)]^bk 6 (lo (k
 (b .lss 16 15) e (xt 6)^bk 7 ((hh [(17,lt 7 (ia 7 14 16))] 7 (.alloc [z,z,z,z,z,z,z]) .nil^w 7 7 17)^(cl 18 177 (c2 0 (lt 7 7))^s [(8,18)])^kq (b .lss
 8 (ld (n2 (.iAddrA 19 1) (ia 19 (lf 1 (nk 0)) 1) 5))) (w 1 (n2 (.iAddrA 19 1) (ia 19 (lf 1 (nk 0)) 1) 5) 8^s [(4,t)]))^s [(16,ad 16 (i 1))])))^s [(13,ad 13
 (i 1))])))))
def Kd:Stm:=
 h 3 (.alloc [z,z,z,z,z,z,z]) .nil^h 4 (.alloc [z,z,z,z,z,z,z]) .nil^((cl 6 176 (c3 0 1 2)^s [(8,i 0),(7,ln 6)])^bk 0 (lo (k (b .lss 8 7) e (xt
 0)^bk 1 ((hh [(9,lt 7 (ia 7 6 8))] 5 (.alloc [z,z,z,z,z,z,z]) .nil^w 7 5 9)^(hh [(11,ld (n2 (.iAddrA 19 1) (ia 19 (lf 1 (nk 0)) 1) 2))] 10 (.call
 true) (c3 (fn 177) 0 (lt 7 5))^kq (b .neq 10 11) (xt 1))^Stm.hv [(12,b .eql (lf 3 4) (i 0))] [] [(b .eql (lf 3 4) (i 0),false)] (some 13) .callC (c3 (fn
 178) (n2 (.slA 3 1 false true false) (fa 0 5) (lf 3 5)) (n2 (.slA 3 1 false true false) (fa 0 4) (lf 3 4)))^kq (p 12 t (b .lss 13 (i 0))) (w 7 4 (lt 7 5)))^s
 [(8,ad 8 (i 1))])))^w 7 3 (lt 7 4)^r
def Ke:Stm:=
 s [(1,i 0)]^s [(1,ad (b .rem (b .mul (i 149) (ad 0 (i 1))) (i 255)) (i 1))]^r
def Kf:Stm:=
 s [(2,.cst u)]^kq (b .lss 1 (i 0)) (v .pan (c1 (n1 (.mkI 9) (.cst (.string ⟨ #[99,97,110,110,111,116,32,98,101,32,110,101,103,97,116,105,118,
 101] ⟩)))))^(cl 7 179 (c2 (n1 (.cvt .u64) (ln 0)) (n1 (.cvt .u64) 1))^s [(4,ix 1 7),(3,ix 0 7)])^kq (p (b .gtr 3 (.cst (.int .u64 0))) t (b .gtr 4 (.cst
 (.int .u64 9223372036854775807)))) (v .pan (c1 (n1 (.mkI 9) (.cst (.string SP)))))^(h 8 (.mkSl [z]) (c2 (n1 (.cvt .i64) 4) (n1 (.cvt .i64) 4))^s [(5,
 8)])^(h 9 (.cpy 1) (c2 5 0)^s [(6,9)])^bk 0 (lo (k (b .lss 6 (ln 5)) e (xt 0)^bk 1 (hh [(10,6)] 11 (.cpy 1) (c2 (n2 (.sl 1 true false false) 5 6) (n2 (.sl 1
 false true false) 5 6))^s [(6,ad 10 11)])))^s [(2,5)]^r
def Ph:CF:=⟨2,12,[(.var 2)],Kf,.plain⟩
def Kg:Stm:=
 kq (b .lss 1 (i 0)) (s [(1,ad 1 (lf 0 (nk 0)))]^s [(2,ad 2 (b .sub (i 4) (b .rem (ad (lf 0 (nk 0)) (i 4)) (i 8))))])^kq (b .lss 2 (i 0)) (s [(2,ad 2 (lf 1
 (nk 0)))]^s [(1,ad 1 (b .sub (i 4) (b .rem (ad (lf 1 (nk 0)) (i 4)) (i 8))))])^w 1 (ia 1 (lf 2 (nk 0)) (ad (b .mul 1 (lf 1 (nk 0))) 2)) (ad (b .mul (i 8) (lf
 3 (nk 0))) 3)
def Kh:Stm:=
 s [(5,lf 1 (nk 0)),(4,lf 0 (nk 0))]^kq (p (b .eql 1 4) (b .eql 2 (i 0)) f) (v (.call false) (c (fn 180) (c3 0 (.node (.build [z,z,z,z,z,z,z,z,z,z,
 z,z,z,z,z,z] [(0,2),(2,2),(4,2),(6,2),(8,2),(10,2),(12,2),(14,2)]) (c (n2 (.build [z,z] [(0,1),(1,1)]) (b .sub 4 (i 1)) (i 0)) (c (n2
 (.build [z,z] [(0,1),(1,1)]) (b .sub 4 (i 1)) (i 1)) (c (n2 (.build [z,z] [(0,1),(1,1)]) (b .sub 4 (i 1)) (i 2)) (c (n2 (.build [z,z] [(0,1),(1,
 1)]) (i 0) (b .sub 5 (i 2))) (c (n2 (.build [z,z] [(0,1),(1,1)]) (i 0) (b .sub 5 (i 1))) (c3 (n2 (.build [z,z] [(0,1),(1,1)]) (i 1) (b .sub 5 (i 1)))
 (n2 (.build [z,z] [(0,1),(1,1)]) (i 2) (b .sub 5 (i 1))) (n2 (.build [z,z] [(0,1),(1,1)]) (i 3) (b .sub 5 (i 1)))))))))) 3)))^kq (p (p (b .eql 1 (b
 .sub 4 (i 2))) (b .eql 2 (i 0)) f) (b .neq (b .rem 5 (i 4)) (i 0)) f) (v (.call false) (c (fn 180) (c3 0 (.node (.build [z,z,z,z,z,z,z,z,z,z,z,z,
 z,z,z,z] [(0,2),(2,2),(4,2),(6,2),(8,2),(10,2),(12,2),(14,2)]) (c (n2 (.build [z,z] [(0,1),(1,1)]) (b .sub 4 (i 3)) (i 0)) (c (n2
 (.build [z,z] [(0,1),(1,1)]) (b .sub 4 (i 2)) (i 0)) (c (n2 (.build [z,z] [(0,1),(1,1)]) (b .sub 4 (i 1)) (i 0)) (c (n2 (.build [z,z] [(0,1),(1,
 1)]) (i 0) (b .sub 5 (i 4))) (c (n2 (.build [z,z] [(0,1),(1,1)]) (i 0) (b .sub 5 (i 3))) (c3 (n2 (.build [z,z] [(0,1),(1,1)]) (i 0) (b .sub 5 (i 2)))
 (n2 (.build [z,z] [(0,1),(1,1)]) (i 0) (b .sub 5 (i 1))) (n2 (.build [z,z] [(0,1),(1,1)]) (i 1) (b .sub 5 (i 1)))))))))) 3)))^kq (p (p (b .eql 1 (b
 .sub 4 (i 2))) (b .eql 2 (i 0)) f) (b .eql (b .rem 5 (i 8)) (i 4)) f) (v (.call false) (c (fn 180) (c3 0 (.node (.build [z,z,z,z,z,z,z,z,z,z,z,z,
 z,z,z,z] [(0,2),(2,2),(4,2),(6,2),(8,2),(10,2),(12,2),(14,2)]) (c (n2 (.build [z,z] [(0,1),(1,1)]) (b .sub 4 (i 3)) (i 0)) (c (n2
 (.build [z,z] [(0,1),(1,1)]) (b .sub 4 (i 2)) (i 0)) (c (n2 (.build [z,z] [(0,1),(1,1)]) (b .sub 4 (i 1)) (i 0)) (c (n2 (.build [z,z] [(0,1),(1,
 1)]) (i 0) (b .sub 5 (i 2))) (c (n2 (.build [z,z] [(0,1),(1,1)]) (i 0) (b .sub 5 (i 1))) (c3 (n2 (.build [z,z] [(0,1),(1,1)]) (i 1) (b .sub 5 (i 1)))
 (n2 (.build [z,z] [(0,1),(1,1)]) (i 2) (b .sub 5 (i 1))) (n2 (.build [z,z] [(0,1),(1,1)]) (i 3) (b .sub 5 (i 1)))))))))) 3)))^kq (p (p (b .eql 1 (ad 4
 (i 4))) (b .eql 2 (i 2)) f) (b .eql (b .rem 5 (i 8)) (i 0)) f) (v (.call false) (c (fn 180) (c3 0 (.node (.build [z,z,z,z,z,z,z,z,z,z,z,z,z,z,z,
 z] [(0,2),(2,2),(4,2),(6,2),(8,2),(10,2),(12,2),(14,2)]) (c (n2 (.build [z,z] [(0,1),(1,1)]) (b .sub 4 (i 1)) (i 0)) (c (n2 (.build [z,z]
 [(0,1),(1,1)]) (b .sub 4 (i 1)) (b .sub 5 (i 1))) (c (n2 (.build [z,z] [(0,1),(1,1)]) (i 0) (b .sub 5 (i 3))) (c (n2 (.build [z,z] [(0,1),(1,1)])
 (i 0) (b .sub 5 (i 2))) (c (n2 (.build [z,z] [(0,1),(1,1)]) (i 0) (b .sub 5 (i 1))) (c3 (n2 (.build [z,z] [(0,1),(1,1)]) (i 1) (b .sub 5 (i 3))) (n2
 (.build [z,z] [(0,1),(1,1)]) (i 1) (b .sub 5 (i 2))) (n2 (.build [z,z] [(0,1),(1,1)]) (i 1) (b .sub 5 (i 1)))))))))) 3)))
def Ki:Stm:=
 s [(3,f)]^s [(3,p (p (p (p (b .geq 1 (i 0)) (b .lss 1 (lf 0 (nk 0))) f) (b .geq 2 (i 0)) f) (b .lss 2 (lf 1 (nk 0))) f) (b .lss (ld (ia 1 (lf 2 (nk 0)) (ad (b
 .mul 1 (lf 1 (nk 0))) 2))) (i 0)) f)]^r
def Kj:Stm:=
 v (.call false) (c (fn 180) (c3 0 (.node (.build [z,z,z,z,z,z,z,z,z,z,z,z,z,z,z,z] [(0,2),(2,2),(4,2),(6,2),(8,2),(10,2),(12,2),
 (14,2)]) (c (n2 (.build [z,z] [(0,1),(1,1)]) (b .sub 1 (i 2)) (b .sub 2 (i 2))) (c (n2 (.build [z,z] [(0,1),(1,1)]) (b .sub 1 (i 2)) (b .sub 2 (i
 1))) (c (n2 (.build [z,z] [(0,1),(1,1)]) (b .sub 1 (i 1)) (b .sub 2 (i 2))) (c (n2 (.build [z,z] [(0,1),(1,1)]) (b .sub 1 (i 1)) (b .sub 2 (i 1))) (c
 (n2 (.build [z,z] [(0,1),(1,1)]) (b .sub 1 (i 1)) 2) (c3 (n2 (.build [z,z] [(0,1),(1,1)]) 1 (b .sub 2 (i 2))) (n2 (.build [z,z] [(0,1),(1,1)]) 1
 (b .sub 2 (i 1))) (n2 (.build [z,z] [(0,1),(1,1)]) 1 2)))))))) 3))
def Kk:Stm:=
 s [(1,i 0)]^kq (b .geq (lf 1 (nk 0)) (ln (lf 0 (nk 0)))) (s [(1,i 10)]^r)^s [(2,ld (ia 1 (lf 0 (nk 0)) (lf 1 (nk 0))))]^kq (p (b .lss 2 (i 1)) t (b .gtr 2 (i
 128))) (s [(1,i 22)]^r)^w 1 (fa 1 (nk 0)) (ad (lf 1 (nk 0)) (i 1))^(hh [(4,lf 2 (nk 0)),(3,0)] 5 (.bSl [.int .u8 0] 1 [0]) (c1 (n1 (.cvt .u8) (ad 2 (i
 127))))^h 6 (.app 1 [.int .u8 0]) (c2 4 5)^w 1 (fa 2 (nk 3)) 6)^s [(1,i 0)]^r
def Kl:Stm:=
 s [(2,i 0)]^s [(4,f),(3,i 0)]^bk 0 (lo (bk 1 ((cl 11 182 (c1 0)^hh [(14,ix 2 11),(13,ix 1 11),(12,ix 0 11)] 5 (.alloc [z,z,z]) .nil^w 3 5 12^s [(7,
 14),(6,13)])^kq (p (b .neq 7 (i 0)) t 6) (s [(2,7)]^r)^s [(16,i 0),(15,lt 3 5)]^bk 2 (lo (k (b .lss 16 (i 3)) e (xt 2)^bk 3 (s [(8,n2 (.idx 3 1 false)
 15 16)]^kq (p (b .eql 3 (i 0)) (b .leq 8 (i 2)) f) (s [(3,ad 8 (i 1))]^xt 3)^kq (p (p (b .eql 3 (i 2)) (b .eql 8 (i 30)) f) (n1 (.un .not) 4) f) (s [(4,t),
 (3,i 0)]^xt 3)^(cl 17 183 (c3 1 3 8)^s [(10,ix 1 17),(9,ix 0 17)])^kq (n1 (.un .not) 10) (s [(2,i 22)]^r)^kq 4 (s [(9,ad 9 (.cst (.int .u8 128)))])^(hh
 [(19,lf 2 (nk 0)),(18,0)] 20 (.bSl [.int .u8 0] 1 [0]) (c1 9)^h 21 (.app 1 [.int .u8 0]) (c2 19 20)^w 1 (fa 2 (nk 18)) 21)^s [(4,f),(3,i 0)])^s [(16,ad
 16 (i 1))])))))
def Km:Stm:=
 s [(1,i 0)]^(cl 8 184 (c1 0)^s [(3,ix 1 8),(2,ix 0 8)])^kq (n1 (.un .not) 3) (s [(1,i 10)]^r)^kq (b .eql 2 (i 0)) (s [(1,i 22)]^r)^kq (b .geq 2 (i 250))
 ((cl 9 184 (c1 0)^s [(5,ix 1 9),(4,ix 0 9)])^kq (n1 (.un .not) 5) (s [(1,i 10)]^r)^kq (b .geq 4 (i 250)) (s [(1,i 22)]^r)^s [(2,ad (b .mul (i 250) (b
 .sub 2 (i 249))) 4)])^(s [(11,i 0),(10,2)]^bk 0 (lo (k (b .lss 11 10) e (xt 0)^bk 1 ((cl 12 184 (c1 0)^s [(7,ix 1 12),(6,ix 0 12)])^kq (n1 (.un .not) 7)
 (s [(1,i 10)]^r)^hh [(14,lf 2 (nk 0)),(13,0)] 15 (.bSl [.int .u8 0] 1 [0]) (c1 (n1 (.cvt .u8) 6))^h 16 (.app 1 [.int .u8 0]) (c2 14 15)^w 1 (fa 2 (nk 13))
 16)^s [(11,ad 11 (i 1))])))^s [(1,i 0)]^r
def Kn:Stm:=
 s [(1,i 0)]^bk 0 (lo (bk 1 ((cl 6 182 (c1 0)^hh [(9,ix 2 6),(8,ix 1 6),(7,ix 0 6)] 2 (.alloc [z,z,z]) .nil^w 3 2 7^s [(4,9),(3,8)])^kq (p (b .neq 4
 (i 0)) t 3) (s [(1,4)]^r)^s [(11,i 0),(10,lt 3 2)]^bk 2 (lo (k (b .lss 11 (i 3)) e (xt 2)^bk 3 (s [(5,n2 (.idx 3 1 false) 10 11)]^hh [(13,lf 2 (nk 0)),
 (12,0)] 14 (.call true) (c2 (fn 185) 5)^h 15 (.bSl [.int .u8 0] 1 [0]) (c1 14)^h 16 (.app 1 [.int .u8 0]) (c2 13 15)^w 1 (fa 2 (nk 12)) 16)^s [(11,ad 11 (i
 1))])))))
def Ko:Stm:=
 s [(1,i 0)]^s [(2,i 0)]^bk 0 (lo (bk 1 (s [(4,ad (lf 1 (nk 0)) (b .quo (ad 2 (i 5)) (i 8))),(3,ad (lf 1 (nk 0)) (b .quo 2 (i 8)))]^kq (b .geq 4 (ln (lf 0
 (nk 0)))) (s [(1,i 10)]^r)^s [(5,b .shl (ld (ia 1 (lf 0 (nk 0)) 3)) (.cst (.int .u64 8)))]^kq (b .gtr 4 3) (s [(5,b .or 5 (ld (ia 1 (lf 0 (nk 0)) 4)))])^s
 [(6,b .and (b .shr 5 (b .sub (i 10) (b .rem 2 (i 8)))) (i 63))]^kq (b .eql 6 (i 31)) (s [(7,b .rem (b .sub (i 8) (b .rem (ad 2 (i 6)) (i 8))) (i 8))]^kq (b
 .neq (b .and (ld (ia 1 (lf 0 (nk 0)) 4)) (b .sub (b .shl (i 1) 7) (i 1))) (i 0)) (s [(1,i 22)]^r)^w 1 (fa 1 (nk 0)) (ad 4 (i 1))^s [(1,i 0)]^r)^kq (b .lss 6
 (i 32)) (s [(6,ad 6 (i 64))])^hh [(9,lf 2 (nk 0)),(8,0)] 10 (.bSl [.int .u8 0] 1 [0]) (c1 (n1 (.cvt .u8) 6))^h 11 (.app 1 [.int .u8 0]) (c2 9 10)^w 1 (fa
 2 (nk 8)) 11)^s [(2,ad 2 (i 6))]))
def Kp:Stm:=
 s [(1,f)]^(s [(2,i 2)]^bk 0 (lo (k (b .leq (b .mul 2 2) 0) e (xt 0)^bk 1 (kq (b .eql (b .rem 0 2) (i 0)) (s [(1,f)]^r))^s [(2,ad 2 (i 1))])))^s [(1,t)]^r
def Kq:Stm:=
 s [(1,i 0)]^(cl 2 189 (c1 (n1 (.cvt .u64) 0))^s [(1,b .sub 2 (i 1))])^r
def Kr:Stm:=
 s [(1,f)]^(s [(2,i 2)]^bk 0 (lo ((cl 3 149 (c1 2)^hh [(4,b .mul (i 2) 3)] 5 (.call false) (c2 (fn 149) 0)^k (b .leq 4 5) e (xt 0))^bk 1 (cl 6 190 (c2 0 2)^kq
 (b .eql 6 (i 0)) (s [(1,f)]^r))^s [(2,ad 2 (i 1))])))^s [(1,t)]^r
def Ks:Stm:=
 (h 2 .box (c1 0)^s [(3,f)])^(s [(7,i 0),(6,ln 1),(5,1)]^bk 0 (lo (k (b .lss 7 6) e (xt 0)^bk 1 (s [(4,ld (ia 1 5 7))]^kq (p (b .lss 4 (i 0)) t (b .geq 4
 (lf 1 2))) (s [(3,f)]^r))^s [(7,ad 7 (i 1))])))^s [(3,t)]^r
def Kt:Stm:=
 (h 4 .box (c1 0)^s [(5,.cst u)])^(h 9 (.mkSl [z]) (c2 (ad (ln 1) (i 1)) (ad (ln 1) (i 1)))^s [(6,9)])^w 1 (ia 1 6 (i 0)) 3^(s [(12,i 0),(11,ln 1),(10,
 1)]^bk 0 (lo (k (b .lss 12 11) e (xt 0)^bk 1 (s [(8,ld (ia 1 10 12)),(7,12)]^(hh [(16,ld (ia 1 6 7)),(15,lt 4 4),(14,7),(13,6)] 17 (.call true) (c
 (fn 155) (c3 (lt 4 4) 8 2))^h 18 .callC (c (fn 154) (c3 15 16 17))^w 1 (ia 1 13 14) 18)^w 1 (ia 1 6 (ad 7 (i 1))) 8)^s [(12,ad 12 (i 1))])))^s [(5,6)]^r
def Ku:Stm:=
 (h 3 .box (c1 0)^s [(4,i 0)])^kq (b .eql 1 (i 0)) (s [(4,i 0)]^r)^s [(4,ld (ia 1 (lf 2 3) (b .rem (b .sub (ad (b .sub (ld (ia 1 (lf 3 3) 1)) (ld (ia 1 (lf 3
 3) 2))) (lf 1 3)) (i 1)) (b .sub (lf 1 3) (i 1)))))]^r
def Kv:Stm:=
 (h 3 .box (c1 0)^s [(4,i 0)])^kq (b .eql (lf 0 3) (i 2)) (s [(4,b .xor 1 2)]^r)^s [(4,b .rem (ad (b .sub 1 2) (lf 1 3)) (lf 1 3))]^r
def Kw:Stm:=
 (h 3 .box (c1 0)^s [(4,i 0)])^kq (p (b .eql 1 (i 0)) t (b .eql 2 (i 0))) (s [(4,i 0)]^r)^s [(4,ld (ia 1 (lf 2 3) (b .rem (ad (ld (ia 1 (lf 3 3) 1)) (ld (ia 1
 (lf 3 3) 2))) (b .sub (lf 1 3) (i 1)))))]^r
def Kx:Stm:=
 (h 1 .box (c1 0)^s [(2,i 0)])^s [(3,i 1)]^bk 0 (lo ((hh [(5,b .sub (lf 1 1) (i 1))] 4 (.call true) (c3 (fn 192) (lt 3 1) 3)^k (b .neq 4 5) e (xt 0))^bk 1 (s
 [(3,ad 3 (i 1))])))^s [(2,3)]^r
def Ky:Stm:=
 (h 3 .box (c1 0)^s [(4,i 0)])^kq (b .eql (lf 2 3) (i 0)) (s [(4,b .rem (b .mul 1 2) (lf 1 3))]^r)^s [(5,i 0)]^bk 0 (lo (k (b .gtr 2 (i 0)) e (xt 0)^bk 1 (kq
 (b .eql (b .and 2 (i 1)) (i 1)) (s [(5,b .xor 5 1)])^s [(1,b .shl 1 (.cst (.int .u64 1)))]^kq (b .geq 1 (lf 1 3)) (s [(1,b .xor 1 (lf 2 3))]))^s [(2,b
 .shr 2 (.cst (.int .u64 1)))]))^s [(4,5)]^r
def Kz:Stm:=
 (h 3 .box (c1 0)^h 4 .box (c1 1)^s [(5,.cst u)])^(h 10 (.mkSl [z]) (c2 (lf 3 4) (lf 3 4))^s [(6,10)])^(s [(12,i 0),(11,ln 6)]^bk 0 (lo (k (b .lss 12 11) e
 (xt 0)^bk 1 (s [(7,12)]^(cl 13 103 (c2 (lt 4 3) (ad (lf 4 4) 7))^s [(8,13)])^s [(16,i 0),(15,ln 2),(14,2)]^bk 2 (lo (k (b .lss 16 15) e (xt 2)^bk 3 (s
 [(9,ld (ia 1 14 16))]^hh [(21,9),(19,lt 4 3),(18,7),(17,6)] 20 (.call true) (c (fn 170) (c3 (lt 4 3) (ld (ia 1 6 7)) 8))^h 22 .callC (c (fn 171) (c3
 19 20 21))^w 1 (ia 1 17 18) 22)^s [(16,ad 16 (i 1))])))^s [(12,ad 12 (i 1))])))^s [(5,6)]^r
def LA:Stm:=
 (h 5 .box (c1 0)^s [(6,.cst u)])^(h 10 (.mkSl [z]) (c2 (n2 (.minmax true) (ln 1) (ad (ln 2) 3)) (n2 (.minmax true) (ln 1) (ad (ln 2) 3)))^s [(7,10)])^v (.cpy
 1) (c2 7 1)^(s [(13,i 0),(12,ln 2),(11,2)]^bk 0 (lo (k (b .lss 13 12) e (xt 0)^bk 1 (s [(9,ld (ia 1 11 13)),(8,13)]^hh [(17,ld (ia 1 7 (ad 8 3))),
 (16,lt 4 5),(15,ad 8 3),(14,7)] 18 (.call true) (c (fn 170) (c3 (lt 4 5) 4 9))^h 19 .callC (c (fn 193) (c3 16 17 18))^w 1 (ia 1 14 15) 19)^s [(13,ad 13
 (i 1))])))^s [(6,7)]^r
def LC:Stm:=
 s [(2,i 0)]^s [(2,b .sub (b .sub (ln (lf 9 (nk 0))) (i 1)) 1)]^r
def LD:Stm:=
 (h 4 .box (c1 0)^s [(5,.cst u)])^(h 10 (.mkSl [z]) (c2 3 3)^s [(6,10)])^(s [(13,i 0),(12,ln 1),(11,1)]^bk 0 (lo (k (b .lss 13 12) e (xt 0)^bk 1 (s [(8,
 ld (ia 1 11 13)),(7,13)]^s [(9,i 0)]^bk 2 (lo (k (p (b .lss 9 (ln 2)) (b .lss (ad 7 9) 3) f) e (xt 2)^bk 3 (hh [(17,ld (ia 1 6 (ad 7 9))),(16,lt 4 4),
 (15,ad 7 9),(14,6)] 18 (.call true) (c (fn 170) (c3 (lt 4 4) 8 (ld (ia 1 2 9))))^h 19 .callC (c (fn 171) (c3 16 17 18))^w 1 (ia 1 14 15) 19)^s [(9,ad 9 (i
 1))])))^s [(13,ad 13 (i 1))])))^s [(5,6)]^r
def LG:Stm:=
 (h 2 .box (c1 0)^s [(3,.cst u)])^(h 14 (.bSl [z] 1 [0]) (c1 (i 1))^h 15 (.bSl [z] 1 [0]) (c1 (i 1))^s [(5,15),(4,14)])^s [(8,i 1),(7,i 1),(6,i 0)]^(s
 [(17,i 0),(16,ln 1)]^bk 0 (lo (k (b .lss 17 16) e (xt 0)^bk 1 (s [(9,17)]^s [(10,i 0)]^(s [(11,i 0)]^bk 2 (lo (k (p (b .leq 11 6) (b .lss 11 (ln 4)) f)
 e (xt 2)^bk 3 (hh [(19,10),(18,lt 4 2)] 20 (.call true) (c (fn 170) (c3 (lt 4 2) (ld (ia 1 4 11)) (ld (ia 1 1 (b .sub 9 11)))))^h 21 .callC (c (fn 171) (c3
 18 19 20))^s [(10,21)])^s [(11,ad 11 (i 1))])))^kq (b .eql 10 (i 0)) (s [(7,ad 7 (i 1))]^xt 1)^(hh [(25,7),(24,5),(23,4),(22,lt 4 2)] 26 (.call
 true) (c (fn 172) (c3 (lt 4 2) 10 8))^h 27 .callC (c (fn 164) (c 22 (c 23 (c3 24 25 26))))^s [(12,27)])^k (b .leq (b .mul (i 2) 6) 9) (s [(7,i 1),(8,10),
 (6,b .sub (ad 9 (i 1)) 6),(5,4)]) (s [(7,ad 7 (i 1))])^s [(4,12)])^s [(17,ad 17 (i 1))])))^s [(13,ln 4)]^bk 4 (lo (k (b .eql (ld (ia 1 4 (b .sub 13 (i
 1)))) (i 0)) e (xt 4)^bk 5 (s [(13,b .sub 13 (i 1))])))^s [(3,n2 (.sl 1 false true false) 4 13)]^r
def LH:Stm:=
 (h 3 .box (c1 0)^s [(4,i 0)])^s [(5,i 0)]^(s [(6,b .sub (ln 1) (i 1))]^bk 0 (lo (k (b .geq 6 (i 0)) e (xt 0)^bk 1 (hh [(9,ld (ia 1 1 6)),(7,lt 4 3)] 8
 (.call true) (c (fn 170) (c3 (lt 4 3) 5 2))^h 10 .callC (c (fn 171) (c3 7 8 9))^s [(5,10)])^s [(6,b .sub 6 (i 1))])))^s [(4,5)]^r
def LI:Stm:=
 (h 2 .box (c1 0)^s [(3,.cst u)])^s [(4,.cst u)]^(s [(5,i 1)]^bk 0 (lo (k (b .lss 5 (ln 1)) e (xt 0)^bk 1 (hh [(6,4)] 7 .callC (c (fn 170) (c3 (lt 4 2) (b
 .rem 5 (lf 0 2)) (ld (ia 1 1 5))))^h 8 (.bSl [z] 1 [0]) (c1 7)^h 9 (.app 1 [z]) (c2 6 8)^s [(4,9)])^s [(5,ad 5 (i 1))])))^s [(3,4)]^r
def LJ:Stm:=
 (h 3 .box (c1 0)^s [(4,i 0)])^kq (p (b .eql 1 (i 0)) t (b .eql 2 (i 0))) (s [(4,i 0)]^r)^s [(4,ld (ia 1 (lf 2 3) (b .rem (ad (ld (ia 1 (lf 3 3) 1)) (ld (ia 1
 (lf 3 3) 2))) (b .sub (lf 1 3) (i 1)))))]^r
def LK:Stm:=
 (h 3 .box (c1 0)^s [(4,i 0)])^kq (b .eql (lf 0 3) (i 2)) (s [(4,b .xor 1 2)]^r)^s [(4,b .rem (ad 1 2) (lf 1 3))]^r
def LL:Stm:=
 (h 3 .box (c1 0)^s [(4,i 0)])^kq (b .eql 1 (i 0)) (s [(4,i 0)]^r)^s [(4,ld (ia 1 (lf 2 3) (b .rem (b .sub (ad (b .sub (ld (ia 1 (lf 3 3) 1)) (ld (ia 1 (lf 3
 3) 2))) (lf 1 3)) (i 1)) (b .sub (lf 1 3) (i 1)))))]^r
def LM:Stm:=
 s [(3,.cst u)]^bk 0 (k (b .eql 2 (i 0)) ((cl 4 194 (c2 0 1)^s [(3,4)])^r) (k (b .lss 2 (i 9)) ((cl 5 195 (c 0 (c 1 (c3 (b .sub 2 (i 1)) (i 1) f)))^s [(3,
 5)])^r) (k (b .lss 2 (i 17)) ((cl 6 195 (c 0 (c 1 (c3 (b .sub 2 (i 9)) (i 9) t)))^s [(3,6)])^r) (kq (b .eql 2 (i 17)) ((cl 7 196 (c2 0 1)^s [(3,
 7)])^r)))))^(cl 8 197 (c2 0 1)^s [(3,8)])^r
def LN:Stm:=
 (h 2 .box (c1 1)^s [(3,i 0)])^(hh [(5,ld (n2 (.iAddrA 19 1) (ia 19 (lf 1 (nk 0)) (lf 5 2)) (lf 6 2)))] 4 (.call true) (c2 (fn 198) (lt 7 2))^s [(3,ad 4
 5)])^r
def LO:Stm:=
 s [(2,i 0)]^(s [(9,i 0),(8,ln 0),(7,0)]^bk 0 (lo (k (b .lss 9 8) e (xt 0)^bk 1 (s [(4,ld (ia 1 7 9)),(3,9)]^kq (b .geq 3 (ln 1)) (s [(2,i 1)]^r)^s
 [(5,ld (ia 1 1 3))]^(cl 10 199 (c2 4 5)^s [(6,10)])^kq (b .neq 6 (i 0)) (s [(2,6)]^r))^s [(9,ad 9 (i 1))])))^kq (b .lss (ln 0) (ln 1)) (s [(2,i
 (-1))]^r)^s [(2,i 0)]^r
def LQ:Stm:=
 (s [(3,.cst (.int .u64 0)),(2,.cst (.int .u64 0))]^kq f ((cl 8 200 (c2 (n1 (.cvt .u32) 0) (n1 (.cvt .u32) 1))^s [(5,ix 1 8),(4,ix 0 8)])^s [(3,n1 (.cvt
 .u64) 5),(2,n1 (.cvt .u64) 4)]^r))^(cl 9 201 (c2 0 1)^s [(7,ix 1 9),(6,ix 0 9)])^s [(3,7),(2,6)]^r
def LR:Stm:=
 h 3 .box (c1 1)^(s [(7,i 0),(6,lt 16 3)]^bk 0 (lo (k (b .lss 7 (i 8)) e (xt 0)^bk 1 ((hh [(9,n2 (.idx 8 2 true) 6 7),(8,7)] 5 (.alloc [z,z]) .nil^Stm.hv
 [(4,8)] [] [] none (.st 2) (c2 5 9))^v (.call false) (c 2 (c3 (ld (n2 (.iAddrA 2 1) 5 (i 0))) (ld (n2 (.iAddrA 2 1) 5 (i 1))) 4)))^s [(7,ad 7 (i 1))])))^w 1
 (fa 3 (nk 0)) (ad (lf 3 (nk 0)) (i 1))
def LS:Stm:=
 (h 1 (.alloc [z,z,z]) .nil^s [(3,i 0),(2,f)])^kq (b .geq (lf 1 (nk 0)) (ln (lf 0 (nk 0)))) ((w 3 1 (lt 3 1)^s [(3,i 10),(2,f)])^r)^kq (b .eql (ld (ia 1
 (lf 0 (nk 0)) (lf 1 (nk 0)))) (i 254)) (w 1 (fa 1 (nk 0)) (ad (lf 1 (nk 0)) (i 1))^(w 3 1 (lt 3 1)^s [(3,i 0),(2,t)])^r)^kq (b .geq (ad (lf 1 (nk 0)) (i
 1)) (ln (lf 0 (nk 0)))) ((w 3 1 (lt 3 1)^s [(3,i 10),(2,f)])^r)^s [(4,b .sub (ad (b .mul (i 256) (ld (ia 1 (lf 0 (nk 0)) (lf 1 (nk 0))))) (ld (ia 1 (lf 0
 (nk 0)) (ad (lf 1 (nk 0)) (i 1))))) (i 1))]^kq (p (b .lss 4 (i 0)) t (b .geq 4 (i 64000))) ((w 3 1 (lt 3 1)^s [(3,i 22),(2,f)])^r)^w 1 (fa 1 (nk 0)) (ad
 (lf 1 (nk 0)) (i 2))^(w 3 1 (.node (.build [z,z,z] [(0,1),(1,1),(2,1)]) (c3 (b .quo 4 (i 1600)) (b .rem (b .quo 4 (i 40)) (i 40)) (b .rem 4 (i 40))))^s
 [(3,i 0),(2,f)])^r
def Lt:List Nat:=[0,1,2,6,7,8]
def LU:Stm:=
 s [(2,f),(1,i 0)]^kq (b .geq (lf 1 (nk 0)) (ln (lf 0 (nk 0)))) (s [(2,f),(1,i 0)]^r)^(hh [(4,ld (ia 1 (lf 0 (nk 0)) (lf 1 (nk 0))))] 5 (.call true) (c2
 (fn 130) (lf 1 (nk 0)))^s [(3,b .rem (ad (b .sub 4 5) (i 256)) (i 256))])^w 1 (fa 1 (nk 0)) (ad (lf 1 (nk 0)) (i 1))^s [(2,t),(1,3)]^r
def Lu:List Nat:=[0,2]
def LV:Stm:=
 (s [(1,i 0)]^kq f ((cl 2 203 (c1 (n1 (.cvt .u32) 0))^s [(1,2)])^r))^(cl 3 204 (c1 0)^s [(1,3)])^r
def LW:Stm:=
 s [(2,i 0)]^bk 0 (lo ((cl 3 149 (c1 0)^cl 4 149 (c1 1)^k (b .geq 3 4) e (xt 0))^bk 1 (hh [(6,1),(5,0)] 7 (.call false) (c2 (fn 149) 0)^cl 8 149 (c1 1)^s
 [(0,b .xor 5 (b .shl 6 (b .sub 7 8)))])))^s [(2,0)]^r
def LX:Stm:=
 (h 2 .box (c1 0)^s [(3,i 0)])^s [(4,i 1)]^(s [(5,1)]^bk 0 (lo (k (b .neq 5 (i 1)) e (xt 0)^bk 1 (s [(4,ad 4 (i 1))])^cl 6 162 (c3 (lt 3 2) 5 1)^s [(5,
 6)])))^s [(3,4)]^r
def LY:Stm:=
 (h 3 .box (c1 0)^s [(4,i 0)])^kq (b .eql (lf 0 3) (i 2)) (s [(4,b .xor 1 2)]^r)^s [(4,b .rem (ad (b .sub 1 2) (lf 1 3)) (lf 1 3))]^r
def LZ:Stm:=
 s [(2,.cst u)]^(h 7 (.bSl [z,z,z,z,z,z,z] 4 [0,1,2,3]) (c (.node (.build [z,z,z,z,z,z,z] [(0,3),(3,1),(5,1),(6,1)]) (c (n1 (.build [z,z,
 z] [(0,1)]) (i 230)) (c3 (i 1) 1 (i 1)))) (c3 (.node (.build [z,z,z,z,z,z,z] [(0,3),(3,1),(5,1),(6,1)]) (c (n1 (.build [z,z,z] [(0,1)]) (i
 239)) (c3 (i 1) 1 (i 9)))) (.node (.build [z,z,z,z,z,z,z] [(0,3),(3,1),(5,1),(6,1)]) (c (n1 (.build [z,z,z] [(0,1)]) (i 238)) (c3 (i 1) 1 (i
 17)))) (.node (.build [z,z,z,z,z,z,z] [(0,3),(3,1),(5,1),(6,1)]) (c (n1 (.build [z,z,z] [(0,1)]) (i 240)) (c3 (i 1) 1 (i 18))))))^s [(3,
 7)])^s [(4,n2 (.sl 1 true false false) (lf 0 (nk 0)) 1)]^kq (b .eql (ln 4) (i 0)) (s [(2,3)]^r)^s [(5,n1 (.cvt .i64) (ld (ia 1 4 (i 0))))]^k (b .lss 5 (i
 128)) (hh [(8,3)] 9 (.bSl [z,z,z,z,z,z,z] 1 [0]) (c1 (.node (.build [z,z,z,z,z,z,z] [(0,3),(3,1),(5,1)]) (c3 (n1 (.build [z,z,z] [(0,1)])
 (ad 5 (i 1))) (i 1) (ad 1 (i 1)))))^h 10 (.app 7 [z,z,z,z,z,z,z]) (c2 8 9)^s [(3,10)]) (hh [(11,3)] 12 (.bSl [z,z,z,z,z,z,z] 1 [0]) (c1 (.node
 (.build [z,z,z,z,z,z,z] [(0,3),(3,1),(5,1)]) (c3 (n2 (.build [z,z,z] [(0,1),(1,1)]) (i 235) (b .sub 5 (i 127))) (i 2) (ad 1 (i 1)))))^h 13
 (.app 7 [z,z,z,z,z,z,z]) (c2 11 12)^s [(3,13)])^(Stm.hv [(14,b .geq (ln 4) (i 2))] [] [(b .geq (ln 4) (i 2),true)] (some 15) (.call false) (c2 (fn
 205) (ld (ia 1 4 (i 0))))^Stm.hv [(16,p 14 15 f)] [] [(p 14 15 f,true)] (some 17) (.call false) (c2 (fn 205) (ld (ia 1 4 (i 1))))^kq (p 16 17 f) (s [(6,b
 .sub (ad (b .mul (i 10) (b .sub 5 (i 48))) (n1 (.cvt .i64) (ld (ia 1 4 (i 1))))) (i 48))]^hh [(18,3)] 19 (.bSl [z,z,z,z,z,z,z] 1 [0]) (c1 (.node
 (.build [z,z,z,z,z,z,z] [(0,3),(3,1),(5,1)]) (c3 (n1 (.build [z,z,z] [(0,1)]) (ad (i 130) 6)) (i 1) (ad 1 (i 2)))))^h 20 (.app 7 [z,z,z,z,z,
 z,z]) (c2 18 19)^s [(3,20)]))^(hh [(21,3)] 22 (.call false) (c3 (fn 206) 0 1)^h 23 (.bSl [z,z,z,z,z,z,z] 1 [0]) (c1 22)^h 24 (.app 7 [z,z,z,z,z,
 z,z]) (c2 21 23)^s [(2,24)])^r
def L0:Stm:=
 s [(5,.cst u)]^(h 12 (.bSl [z,z,z,z,z,z,z] 1 [0]) (c1 (.node (.build [z,z,z,z,z,z,z] [(0,3),(3,1),(5,1),(6,1)]) (c (n1 (.build [z,z,z]
 [(0,1)]) (i 254)) (c3 (i 1) 1 (i 0)))))^s [(6,12)])^(hh [(13,.node (.build [z,z,.bool false] [(0,1),(1,1),(2,1)]) (c3 1 (b .rem 2 (i 4)) (b .geq 2
 (i 4))))] 7 (.alloc [z,z,.bool false]) .nil^w 3 7 13)^((cl 14 207 (c3 0 (lt 3 7) 4)^s [(16,i 0),(15,ln 14)])^bk 0 (lo (k (b .lss 16 15) e (xt 0)^bk 1
 ((hh [(17,lt 4 (ia 4 14 16))] 8 (.alloc [z,z,z,.bool false]) .nil^w 4 8 17)^(cl 18 207 (c3 0 (lt 3 (fa 1 8)) 4)^s [(20,i 0),(19,ln 18)])^bk 2 (lo (k (b
 .lss 20 19) e (xt 2)^bk 3 ((hh [(21,lt 4 (ia 4 18 20))] 9 (.alloc [z,z,z,.bool false]) .nil^w 4 9 21)^(cl 22 207 (c3 0 (lt 3 (fa 1 9)) 4)^s [(24,i 0),
 (23,ln 22)])^bk 4 (lo (k (b .lss 24 23) e (xt 4)^bk 5 ((hh [(25,lt 4 (ia 4 22 24))] 10 (.alloc [z,z,z,.bool false]) .nil^w 4 10 25)^s [(11,ad 3 (lf 1
 (fa 1 10)))]^kq (lf 2 (fa 1 10)) (s [(11,ad 11 (i 4))])^hh [(26,6)] 27 (.call false) (c (fn 208) (c (lf 0 8) (c (lf 0 9) (c3 (lf 0 10) (lf 0 (fa 1 10))
 11))))^h 28 (.bSl [z,z,z,z,z,z,z] 1 [0]) (c1 27)^h 29 (.app 7 [z,z,z,z,z,z,z]) (c2 26 28)^s [(6,29)])^s [(24,ad 24 (i 1))])))^s [(20,ad 20 (i
 1))])))^s [(16,ad 16 (i 1))])))^s [(5,6)]^r
def L2:Stm:=
 s [(2,.cst u)]^(h 6 (.bSl [z,z,z,z,z,z,z] 1 [0]) (c1 (.node (.build [z,z,z,z,z,z,z] [(0,3),(3,1),(5,1),(6,1)]) (c (n1 (.build [z,z,z] [(0,
 1)]) (i 254)) (c3 (i 1) 1 (i 0)))))^s [(3,6)])^kq (b .lss (b .sub (ln (lf 0 (nk 0))) 1) (i 3)) (s [(2,3)]^r)^h 4 (.alloc [z,z,z]) .nil^(s [(7,i 0)]^bk 0
 (lo (k (b .lss 7 (i 3)) e (xt 0)^bk 1 (s [(5,7)]^(hh [(8,5)] 9 (.call false) (c2 (fn 209) (ld (ia 1 (lf 0 (nk 0)) (ad 1 5))))^w 1 (n2 (.iAddrA 3 1) 4 8)
 9)^kq (b .lss (ld (n2 (.iAddrA 3 1) 4 5)) (i 0)) (s [(2,3)]^r))^s [(7,ad 7 (i 1))])))^(hh [(10,3)] 11 (.call false) (c (fn 208) (c (ld (n2 (.iAddrA 3 1) 4
 (i 0))) (c (ld (n2 (.iAddrA 3 1) 4 (i 1))) (c3 (ld (n2 (.iAddrA 3 1) 4 (i 2))) (ad 1 (i 3)) (i 17)))))^h 12 (.bSl [z,z,z,z,z,z,z] 1 [0]) (c1 11)^h 13
 (.app 7 [z,z,z,z,z,z,z]) (c2 10 12)^s [(2,13)])^r
def L3:Stm:=
 s [(2,.cst u)]^s [(3,.cst u)]^s [(4,i 0)]^(s [(7,i 0)]^bk 0 (lo (k (b .lss 7 (i 4)) e (xt 0)^bk 1 (s [(5,7)]^(hh [(8,3)] 9 (.call false) (c (fn 210) (c (b
 .or (b .shl 4 (.cst (.int .u64 6))) (i 31)) (c3 (ad 5 (i 1)) (ad 1 5) (i 0))))^h 10 (.bSl [z,z,z,z,z,z,z] 1 [0]) (c1 9)^h 11 (.app 7 [z,z,z,z,z,z,
 z]) (c2 8 10)^s [(3,11)])^kq (b .geq (ad 1 5) (ln (lf 0 (nk 0)))) (s [(2,3)]^r)^s [(6,ld (ia 1 (lf 0 (nk 0)) (ad 1 5)))]^kq (p (b .lss 6 (.cst (.int .u8
 32))) t (b .gtr 6 (.cst (.int .u8 94)))) (s [(2,3)]^r)^s [(4,b .or (b .shl 4 (.cst (.int .u64 6))) (b .and (n1 (.cvt .i64) 6) (i 63)))])^s [(7,ad 7 (i
 1))])))^(hh [(12,3)] 13 (.call false) (c (fn 210) (c 4 (c3 (i 4) (ad 1 (i 4)) (i 18))))^h 14 (.bSl [z,z,z,z,z,z,z] 1 [0]) (c1 13)^h 15 (.app 7 [z,z,
 z,z,z,z,z]) (c2 12 14)^s [(2,15)])^r
def L4:Stm:=
 (h 1 .box (c1 0)^s [(2,i 0)])^s [(2,ad (lf 3 1) (lf 4 1))]^r
def L5:Stm:=
 s [(2,i 0)]^(cl 5 211 (c1 0)^s [(3,5)])^(cl 6 211 (c1 1)^s [(4,6)])^kq 3 (kq 4 (s [(2,i 0)]^r)^s [(2,i (-1))]^r)^kq 4 (s [(2,i 1)]^r)^kq (b .lss 0 1) (s
 [(2,i (-1))]^r)^kq (b .gtr 0 1) (s [(2,i 1)]^r)^s [(2,i 0)]^r
def Lv:List Nat:=[0,1,4,5,6]
def L6:Stm:=
 s [(3,.cst (.int .u64 0)),(2,.cst (.int .u64 0))]^s [(4,b .and 0 (.cst (.int .u64 4294967295)))]^s [(5,b .shr 0 (.cst (.int .u64 32)))]^s [(6,b .and 1
 (.cst (.int .u64 4294967295)))]^s [(7,b .shr 1 (.cst (.int .u64 32)))]^s [(8,b .mul 4 6)]^s [(9,ad (b .mul 5 6) (b .shr 8 (.cst (.int .u64 32))))]^s [(10,
 b .and 9 (.cst (.int .u64 4294967295)))]^s [(11,b .shr 9 (.cst (.int .u64 32)))]^s [(10,ad 10 (b .mul 4 7))]^s [(2,ad (ad (b .mul 5 7) 11) (b .shr 10 (.cst
 (.int .u64 32))))]^s [(3,b .mul 0 1)]^r
def Lw:List Nat:=[0,2]
def L7:Stm:=
 s [(1,i 0)]^kq (b .geq 0 (.cst (.int .u64 4294967296))) (s [(0,b .shr 0 (.cst (.int .u64 32)))]^s [(1,i 32)])^kq (b .geq 0 (.cst (.int .u64 65536))) (s [(0,
 b .shr 0 (.cst (.int .u64 16)))]^s [(1,ad 1 (i 16))])^kq (b .geq 0 (.cst (.int .u64 256))) (s [(0,b .shr 0 (.cst (.int .u64 8)))]^s [(1,ad 1 (i 8))])^s
 [(1,ad 1 (n1 (.cvt .i64) (n2 .idxS (.cst (.string Iw)) (n1 (.cvt .u8) 0))))]^r
def Lx:List Nat:=[0,2]
def L8:Stm:=
 h 2 (.alloc [z,z,z,z,z,z,z]) .nil^h 3 (.alloc [z,z,z,z,z,z,z]) .nil^(s [(4,i 1)]^bk 0 (lo (k (p (b .leq 4 (b .sub (ln (lf 0 (nk 0))) 1)) (b .leq 4
 (i 1749)) f) e (xt 0)^bk 1 ((hh [(6,.node (.build [z,z,z,z,z,z,z] [(0,3),(3,1),(4,1),(5,1)]) (c (n2 (.build [z,z,z] [(0,1),(1,1)]) (i 231)
 4) (c3 (i 2) 4 (ad 1 4))))] 5 (.alloc [z,z,z,z,z,z,z]) .nil^w 7 5 6)^kq (b .geq 4 (i 250)) (w 3 (fa 0 5) (.node (.build [z,z,z] [(0,1),(1,1),(2,
 1)]) (c3 (i 231) (ad (i 249) (b .quo 4 (i 250))) (b .rem 4 (i 250))))^w 1 (fa 3 5) (i 3))^Stm.hv [(10,p (b .eql 4 (i 1)) (.cst (.tuple #[])) (lt 7 3)),(9,p
 (b .eql 4 (i 1)) (.cst (.tuple #[])) 0),(7,b .eql 4 (i 1))] [] [(b .eql 4 (i 1),false)] (some 8) (.call true) (c3 (fn 177) 0 (lt 7 5))^Stm.hv [] [] [(7,
 false)] (some 11) .callC (c3 (fn 177) 9 10)^kq (p 7 t (b .lss 8 11)) (w 7 3 (lt 7 5)))^s [(4,ad 4 (i 1))])))^w 7 2 (lt 7 3)^r
def L9:Stm:=
 (h 3 .box (c1 1)^s [(4,.cst u)])^s [(5,.cst u)]^kq (b .eql (lf 1 3) (i 0)) (s [(10,i 0)]^bk 0 (lo (k (b .lss 10 (i 3)) e (xt 0)^bk 1 (s [(6,10)]^hh [(11,
 5)] 12 (.bSl [z,z,z,.bool false] 1 [0]) (c1 (n2 (.build [z,z,z,.bool false] [(0,1),(1,3)]) 6 (.node (.build [z,z,.bool false] [(0,1),(1,1),(2,
 1)]) (c3 (lf 0 3) (ad 6 (i 1)) (lf 2 3)))))^h 13 (.app 4 [z,z,z,.bool false]) (c2 11 12)^s [(5,13)])^s [(10,ad 10 (i 1))])))^kq (b .lss (lf 0 3) (ln (lf
 0 (nk 0)))) (s [(7,ld (ia 1 (lf 0 (nk 0)) (lf 0 3)))]^(cl 14 212 (c2 2 (b .and 7 (.cst (.int .u8 127))))^s [(9,ix 1 14),(8,ix 0 14)])^kq (p (b .eql 8 (lf
 1 3)) (n2 (.eqB false) (lf 2 3) (b .geq 7 (.cst (.int .u8 128)))) f) (hh [(15,5)] 16 (.bSl [z,z,z,.bool false] 1 [0]) (c1 (n2 (.build [z,z,z,.bool
 false] [(0,1),(1,3)]) 9 (n1 (.build [z,z,.bool false] [(0,1)]) (ad (lf 0 3) (i 1)))))^h 17 (.app 4 [z,z,z,.bool false]) (c2 15 16)^s [(5,17)]))^kq
 (p (b .eql (lf 1 3) (i 2)) (n1 (.un .not) (lf 2 3)) f) (hh [(18,5)] 19 (.bSl [z,z,z,.bool false] 1 [0]) (c1 (n2 (.build [z,z,z,.bool false] [(0,1),
 (1,3)]) (i 30) (n2 (.build [z,z,.bool false] [(0,1),(2,1)]) (lf 0 3) t)))^h 20 (.app 4 [z,z,z,.bool false]) (c2 18 19)^s [(5,20)])^s [(4,5)]^r
def La:Stm:=
 h 5 (.alloc [z,z,z,z,z,z,z]) .nil^s [(6,ad (ad (ad (b .mul (i 1600) 0) (b .mul (i 40) 1)) 2) (i 1))]^w 7 5 (.node (.build [z,z,z,z,z,z,z] [(0,3),
 (3,1),(5,1),(6,1)]) (c (n2 (.build [z,z,z] [(0,1),(1,1)]) (b .quo 6 (i 256)) (b .rem 6 (i 256))) (c3 (i 2) 3 4)))^r
def Ly:List Nat:=[0,2]
def Lb:Stm:=
 h 4 (.alloc [z,z,z,z,z,z,z]) .nil^s [(0,b .shl 0 (b .mul (i 6) (b .sub (i 4) 1)))]^w 7 4 (.node (.build [z,z,z,z,z,z,z] [(0,3),(3,1),(5,1),
 (6,1)]) (c (.node (.build [z,z,z] [(0,1),(1,1),(2,1)]) (c3 (b .shr 0 (.cst (.int .u64 16))) (b .and (b .shr 0 (.cst (.int .u64 8))) (i 255)) (b .and 0
 (i 255)))) (c3 (b .quo (ad (b .mul (i 6) 1) (i 7)) (i 8)) 2 3)))^r
def Lc:Stm:=
 s [(1,f)]^s [(1,b .neq 0 0)]^r
def Lz:List Nat:=[0,1,4,5,6,7,8]
end
theorem kR{P:Prop}(h:P:=by kernel_rfl):P:=h
theorem Sm:(aY Tryz.prog RQ 12).all bA=true:=by kernel_rfl
theorem Sn:(aY Tryz.prog RR 15).all bA=true:=by kernel_rfl
theorem So:(aY Tryz.prog RT 55).all bA=true:=by kernel_rfl
theorem Qa:(aY Tryz.prog Lt 183).all bA=true:=by kernel_rfl
theorem Qb:(aY Tryz.prog Lu 185).all bA=true:=by kernel_rfl
theorem Qc:(aY Tryz.prog Lv 200).all bA=true:=by kernel_rfl
theorem Qd:(aY Tryz.prog Lw 203).all bA=true:=by kernel_rfl
theorem Qe:(aY Tryz.prog Lx 205).all bA=true:=by kernel_rfl
theorem Qf:(aY Tryz.prog Ly 209).all bA=true:=by kernel_rfl
theorem Qg:(aY Tryz.prog Lz 212).all bA=true:=by kernel_rfl
noncomputable def EM:FuncId->Option CF
 | 7=>some cf7
 | 12=>aY Tryz.prog RQ 12
 | 13=>some ⟨2,27,[(.var 3),(.var 4)],PD,.plain⟩
 | 15=>aY Tryz.prog RR 15
 | _=>none
theorem yu(f:FuncId)(cf:CF)(h:EM f=some cf):∃t,aY Tryz.prog t f=some cf:=by
 unfold EM at h;split at h
 ·cases h;exact⟨[0,1,4,5,6,7,8,9,13,17,18,19,22,43,44],kR⟩
 ·exact⟨_,h⟩
 ·cases h;exact⟨[0,1,3,4,5,6,7,8,9,10,11,12,13,14,19,25,26,27,36,38,39,43,48,49,55,56,57],kR⟩
 ·exact⟨_,h⟩
 ·simp at h
noncomputable def EN:FuncId->Option CF
 | 16=>some ⟨2,32,[(.var 3),(.var 4),(.var 5)],PE,.plain⟩
 | 18=>some Rc
 | 21=>some Re
 | 27=>some ⟨3,12,[(.var 4)],PH,.plain⟩
 | 28=>some ⟨1,12,[(.node (.ld 5 true) (.cons (.var 2) .nil)),(.var 3)],PI,.plain⟩
 | 29=>some ⟨2,35,[(.var 3),(.var 4)],PJ,.plain⟩
 | 30=>some ⟨3,9,[(.var 3)],PK,.plain⟩
 | _=>none
theorem yv(f:FuncId)(cf:CF)(h:EN f=some cf):∃t,aY Tryz.prog t f=some cf:=by
 unfold EN at h;split at h<;>try cases h
 ·exact⟨[0,1,3,4,5,6,7,8,9,10,11,12,13,14,15,16,17,25,31,32,33,39,41,42,46,51,52,53,54,63,64,65],kR⟩
 ·exact⟨[0,1,4,5,6,7,8,9,10,13,19,25,26,27,31,36,42,46,52,55,57],kR⟩
 ·exact⟨[0,1,2,3,4,5,6,7,8,9,10,13,14,15,16,23,32],kR⟩
 ·exact⟨[0,1,2,4,6,8,9,10,11,17,18,19],kR⟩
 ·exact⟨[0,1,2,3,4,5,7,8,9,13,20,22],kR⟩
 ·exact⟨[0,1,2,4,5,6,7,8,9,10,11,13,14,15,16,19,24,31,36,48,49,50,51,66,68,69,70,78,82,83,84,90,94,98,100],kR⟩
 ·exact⟨[0,1,2,6,7,8,17,22,23],kR⟩
noncomputable def EO:FuncId->Option CF
 | 36=>some ⟨3,32,[(.node (.ld 2 true) (.cons (.var 4) .nil)),(.var 5)],PM,.plain⟩
 | 38=>some ⟨1,5,[(.var 1),(.var 2)],PN,.plain⟩
 | 39=>some ⟨2,10,[(.node (.ld 7 true) (.cons (.var 2) .nil)),(.var 3)],PO,.plain⟩
 | 40=>some ⟨2,11,[(.var 2),(.var 3)],PQ,.plain⟩
 | 41=>some Rf
 | 45=>some Rg
 | 46=>some ⟨1,12,[(.var 1),(.var 2)],PT,.plain⟩
 | _=>none
theorem yw(f:FuncId)(cf:CF)(h:EO f=some cf):∃t,aY Tryz.prog t f=some cf:=by
 unfold EO at h;split at h<;>try cases h
 ·exact⟨[0,1,2,3,6,7,9,10,12,13,14,17,20,21,22,39,44,45,46,47,49,50,52,53,54,55,82,86,87,102,104,105],kR⟩
 ·exact⟨[0,2,3,8,9],kR⟩
 ·exact⟨[0,1,4,5,6,8,15,16,17,20],kR⟩
 ·exact⟨[0,1,4,5,7,8,9,10,11,12,30],kR⟩
 ·exact⟨[0,1,3,4,5,7,8,9,10,11,12,13,14,15,16,17,29,30,31,45,50,52,54,60,61,64,65,77,109,110,115],kR⟩
 ·exact⟨[0,1,2,3,4,5,6,7,8,9,10,11,12,13,15,18,21,28,30,33,39,41,42,43,57],kR⟩
 ·exact⟨[0,2,3,5,6,7,8,9,10,11,27,53],kR⟩
noncomputable def EP:FuncId->Option CF
 | 54=>some ⟨2,5,[(.var 3)],MQ,.plain⟩
 | 55=>aY Tryz.prog RT 55
 | 56=>some ⟨2,7,[(.node (.ld 3 true) (.cons (.var 2) .nil)),(.var 3)],PU,.plain⟩
 | 57=>some ⟨3,8,[(.node (.ld 5 true) (.cons (.var 4) .nil)),(.var 5)],PV,.plain⟩
 | 58=>some ⟨2,9,[(.var 3)],PW,.plain⟩
 | 59=>some ⟨2,4,[(.var 3)],PX,.plain⟩
 | 60=>some ⟨1,16,[(.var 2),(.var 3)],PY,.plain⟩
 | 61=>some ⟨3,12,[(.var 4),(.var 5),(.var 6)],PZ,.plain⟩
 | 62=>some ⟨1,4,[(.var 1)],MR,.plain⟩
 | 63=>some ⟨3,9,[(.var 4),(.var 5)],P0,.plain⟩
 | _=>none
theorem yx(f:FuncId)(cf:CF)(h:EP f=some cf):∃t,aY Tryz.prog t f=some cf:=by
 unfold EP at h;split at h
 ·cases h;exact⟨[0,1,3,4,7],kR⟩
 ·exact⟨_,h⟩
 ·cases h;exact⟨[0,1,4,5,6,17,19],kR⟩
 ·cases h;exact⟨[0,1,2,3,6,7,9,15],kR⟩
 ·cases h;exact⟨[0,1,2,4,7,8,15,17,21],kR⟩
 ·cases h;exact⟨[0,1,2,4],kR⟩
 ·cases h;exact⟨[0,1,2,3,4,5,6,8,12,15,17,18,21,22,28,34],kR⟩
 ·cases h;exact⟨[0,1,2,3,6,7,8,9,12,13,20,23],kR⟩
 ·cases h;exact⟨[0,2,3,21],kR⟩
 ·cases h;exact⟨[0,1,2,3,6,7,8,11,12],kR⟩
 ·simp at h
noncomputable def ER:FuncId->Option CF
 | 71=>some ⟨1,22,[(.node (.ld 4 true) (.cons (.var 2) .nil))],P1,.plain⟩
 | 72=>some ⟨1,9,[(.var 1)],P2,.plain⟩
 | 75=>some ⟨1,9,[(.var 1)],P3,.plain⟩
 | 76=>some ⟨1,30,[(.var 1)],m9,.plain⟩
 | 77=>some ⟨1,4,[(.var 2),(.var 3)],P4,.plain⟩
 | 78=>some Rh
 | 79=>some ⟨3,11,[(.node (.ld 3 true) (.cons (.var 4) .nil))],P6,.plain⟩
 | _=>none
theorem yy(f:FuncId)(cf:CF)(h:ER f=some cf):∃t,aY Tryz.prog t f=some cf:=by
 unfold ER at h;split at h<;>try cases h
 ·exact⟨[0,1,2,3,5,6,7,10,14,16,20,22,23,24,27,28,34,35,36,38,39,45],kR⟩
 ·exact⟨[0,2,3,5,18,19,20,21,26],kR⟩
 ·exact⟨[0,2,3,4,5,6,10,12,19],kR⟩
 ·exact⟨[0,2,3,4,5,6,8,10,18,34,43,44,48,49,53,54,55,59,60,63,66,67,78,79,80,84,86,89,92,93],kR⟩
 ·exact⟨[0,1,2,3],kR⟩
 ·exact⟨[0,1,4,5,6,7,8,9,10,11,12,13,14,18,20,48,73],kR⟩
 ·exact⟨[0,1,2,3,6,7,8,9,10,12,53],kR⟩
noncomputable def ES:FuncId->Option CF
 | 80=>some ⟨3,6,[(.var 3)],P7,.plain⟩
 | 86=>some ⟨1,3,[(.var 2)],P8,.plain⟩
 | 87=>some ⟨2,7,[(.var 2)],P9,.plain⟩
 | 88=>some ⟨2,4,[(.var 3)],Pa,.plain⟩
 | 89=>some ⟨2,19,[(.var 2)],Pb,.plain⟩
 | _=>none
theorem yz(f:FuncId)(cf:CF)(h:ES f=some cf):∃t,aY Tryz.prog t f=some cf:=by
 unfold ES at h;split at h<;>try cases h
 ·exact⟨[0,1,2,6,7,8],kR⟩
 ·exact⟨[0,1,2],kR⟩
 ·exact⟨[0,1,4,5,7,8,16],kR⟩
 ·exact⟨[0,1,2,3],kR⟩
 ·exact⟨[0,1,4,5,13,17,21,22,34,38,47,48,51,55,59,63,67,71,75],kR⟩
noncomputable def ET:FuncId->Option CF
 | 99=>some ⟨2,7,[(.var 3)],MS,.plain⟩
 | 100=>some ⟨1,12,[(.var 2)],KS,.plain⟩
 | 101=>some ⟨3,5,[(.var 4)],KT,.plain⟩
 | 102=>some ⟨2,8,[(.var 3)],KU,.plain⟩
 | 103=>some ⟨2,4,[(.var 3)],KV,.plain⟩
 | 104=>some ⟨2,17,[(.var 3),(.var 4)],KW,.plain⟩
 | 105=>some ⟨2,12,[(.var 3)],D9,.plain⟩
 | 106=>some ⟨1,22,[(.node (.ld 4 true) (.cons (.var 2) .nil))],KX,.plain⟩
 | 107=>some ⟨3,25,[(.var 4),(.var 5)],KY,.plain⟩
 | 108=>some ⟨2,9,[(.var 3)],KZ,.plain⟩
 | _=>none
theorem zA(f:FuncId)(cf:CF)(h:ET f=some cf):∃t,aY Tryz.prog t f=some cf:=by
 unfold ET at h;split at h<;>try cases h
 ·exact⟨[0,1,3,4,5,7,8],kR⟩
 ·exact⟨[0,1,2,23,26,31,34,37,40,43,46,49],kR⟩
 ·exact⟨[0,1,2,3,6],kR⟩
 ·exact⟨[0,1,2,4,6,7,8,9],kR⟩
 ·exact⟨[0,1,2,4],kR⟩
 ·exact⟨[0,1,2,4,5,6,7,9,11,13,16,23,24,25,26,27,34],kR⟩
 ·exact⟨[0,1,2,4,6,7,9,11,12,13,33,36],kR⟩
 ·exact⟨[0,1,2,3,5,6,7,10,14,16,20,22,23,24,27,28,34,35,36,38,39,45],kR⟩
 ·exact⟨[0,1,2,3,6,7,8,9,10,11,12,14,26,45,50,51,52,57,60,61,67,71,72,75,77],kR⟩
 ·exact⟨[0,1,2,4,6,8,10,11,12],kR⟩
noncomputable def EU:FuncId->Option CF
 | 114=>some ⟨1,6,[(.var 2),(.var 3)],K0,.plain⟩
 | 115=>some ⟨3,10,[(.var 4),(.var 5)],K1,.plain⟩
 | 116=>some ⟨1,4,[(.var 1)],K2,.plain⟩
 | 117=>some ⟨1,17,[(.var 1)],K7,.plain⟩
 | 118=>some ⟨1,6,[(.var 1)],K8,.plain⟩
 | 119=>some ⟨1,23,[(.var 1)],K9,.plain⟩
 | 120=>some ⟨1,36,[(.var 1)],Ka,.plain⟩
 | 121=>some ⟨1,6,[(.var 1)],Kb,.plain⟩
 | _=>none
theorem zB(f:FuncId)(cf:CF)(h:EU f=some cf):∃t,aY Tryz.prog t f=some cf:=by
 unfold EU at h;split at h<;>try cases h
 ·exact⟨[0,1,2,3,5,8],kR⟩
 ·exact⟨[0,1,2,3,6,7,8,11,12,17],kR⟩
 ·exact⟨[0,2,3,16],kR⟩
 ·exact⟨[0,2,3,4,5,6,12,13,14,20,24,28,32,36,39,40,41],kR⟩
 ·exact⟨[0,2,3,21,22,33],kR⟩
 ·exact⟨[0,2,3,4,5,6,10,11,12,20,26,29,31,34,44,49,53,55,56,60,64,66,67],kR⟩
 ·exact⟨[0,2,3,4,5,7,8,9,10,35,50,56,60,61,62,69,75,78,80,84,87,99,101,105,106,113,114,120,121,125,132,136,143,144,145,146],kR⟩
 ·exact⟨[0,2,4,17,18,19],kR⟩
noncomputable def EW:FuncId->Option CF
 | 128=>some ⟨2,19,[],Kc,.plain⟩
 | 129=>some ⟨3,14,[(.node (.ld 7 true) (.cons (.var 3) .nil))],Kd,.plain⟩
 | 130=>some ⟨1,2,[(.var 1)],Ke,.plain⟩
 | 131=>some Ph
 | 132=>some ⟨4,4,[],Kg,.plain⟩
 | 133=>some ⟨4,6,[],Kh,.plain⟩
 | 134=>some ⟨3,4,[(.var 3)],Ki,.plain⟩
 | 135=>some ⟨4,4,[],Kj,.plain⟩
 | 138=>some ⟨1,7,[(.var 1)],Kk,.plain⟩
 | 139=>some ⟨2,22,[(.var 2)],Kl,.plain⟩
 | 140=>some ⟨1,17,[(.var 1)],Km,.plain⟩
 | 141=>some ⟨1,17,[(.var 1)],Kn,.plain⟩
 | 142=>some ⟨1,12,[(.var 1)],Ko,.plain⟩
 | _=>none
theorem zC(f:FuncId)(cf:CF)(h:EW f=some cf):∃t,aY Tryz.prog t f=some cf:=by
 unfold EW at h;split at h<;>try cases h
 ·exact⟨[0,1,4,5,6,7,8,10,11,12,15,19,23,24,28,29,30,33,36],kR⟩
 ·exact⟨[0,1,2,6,7,9,13,14,15,18,21,30,35,44],kR⟩
 ·exact⟨[0,2],kR⟩
 ·exact⟨[0,1,4,5,6,7,8,18,30,33,38,45],kR⟩
 ·exact⟨[0,1,2,3],kR⟩
 ·exact⟨[0,1,2,3,8,9],kR⟩
 ·exact⟨[0,1,2,6],kR⟩
 ·exact⟨[0,1,2,3],kR⟩
 ·exact⟨[0,2,3,37,41,45,46],kR⟩
 ·exact⟨[0,1,4,5,6,7,8,9,11,12,13,16,17,18,19,26,27,52,60,64,66,67],kR⟩
 ·exact⟨[0,2,3,4,5,6,7,8,11,22,34,35,39,44,48,51,52],kR⟩
 ·exact⟨[0,2,3,4,5,7,10,11,12,13,20,21,24,28,30,31,32],kR⟩
 ·exact⟨[0,2,3,4,5,6,7,8,87,91,94,95],kR⟩
noncomputable def EX:FuncId->Option CF
 | 148=>some ⟨1,3,[(.var 1)],Kp,.plain⟩
 | 149=>some ⟨1,3,[(.var 1)],Kq,.plain⟩
 | 150=>some ⟨1,7,[(.var 1)],Kr,.plain⟩
 | 151=>some ⟨2,8,[(.var 3)],Ks,.plain⟩
 | 152=>some ⟨4,19,[(.var 5)],Kt,.plain⟩
 | 153=>some ⟨3,5,[(.var 4)],Ku,.plain⟩
 | 154=>some ⟨3,5,[(.var 4)],Kv,.plain⟩
 | 155=>some ⟨3,5,[(.var 4)],Kw,.plain⟩
 | _=>none
theorem zD(f:FuncId)(cf:CF)(h:EX f=some cf):∃t,aY Tryz.prog t f=some cf:=by
 unfold EX at h;split at h<;>try cases h
 ·exact⟨[0,2,3],kR⟩
 ·exact⟨[0,2,5],kR⟩
 ·exact⟨[0,2,3,5,6,8,14],kR⟩
 ·exact⟨[0,1,2,4,6,7,8,9],kR⟩
 ·exact⟨[0,1,2,3,4,8,9,10,11,15,19,20,21,26,27,28,32,36,37],kR⟩
 ·exact⟨[0,1,2,3,6],kR⟩
 ·exact⟨[0,1,2,3,6],kR⟩
 ·exact⟨[0,1,2,3,6],kR⟩
noncomputable def xE:FuncId->Option CF
 | 161=>some ⟨1,6,[(.var 2)],Kx,.plain⟩
 | 162=>some ⟨3,6,[(.var 4)],Ky,.plain⟩
 | 163=>some ⟨3,23,[(.var 5)],Kz,.plain⟩
 | 164=>some ⟨5,20,[(.var 6)],LA,.plain⟩
 | 165=>some ⟨2,3,[(.var 2)],LC,.plain⟩
 | 166=>some ⟨4,20,[(.var 5)],LD,.plain⟩
 | 167=>some ⟨2,28,[(.var 3)],LG,.plain⟩
 | 168=>some ⟨3,11,[(.var 4)],LH,.plain⟩
 | 169=>some ⟨2,10,[(.var 3)],LI,.plain⟩
 | 170=>some ⟨3,5,[(.var 4)],LJ,.plain⟩
 | 171=>some ⟨3,5,[(.var 4)],LK,.plain⟩
 | 172=>some ⟨3,5,[(.var 4)],LL,.plain⟩
 | _=>none
theorem wz(f:FuncId)(cf:CF)(h:xE f=some cf):∃t,aY Tryz.prog t f=some cf:=by
 unfold xE at h;split at h<;>try cases h
 ·exact⟨[0,1,2,3,6,9],kR⟩
 ·exact⟨[0,1,2,3,6,7],kR⟩
 ·exact⟨[0,1,2,3,4,6,7,8,9,11,14,16,17,25,26,27,28,32,33,34,41,42,43],kR⟩
 ·exact⟨[0,1,2,3,4,5,10,11,12,13,21,25,26,27,32,35,36,42,46,47],kR⟩
 ·exact⟨[0,1,4],kR⟩
 ·exact⟨[0,1,2,3,4,8,9,10,11,12,14,15,16,17,35,38,39,45,52,53],kR⟩
 ·exact⟨[0,1,2,4,5,6,7,8,9,10,11,12,13,14,15,16,18,19,33,34,46,47,52,53,54,55,59,60],kR⟩
 ·exact⟨[0,1,2,3,6,7,8,16,20,24,25],kR⟩
 ·exact⟨[0,1,2,4,5,6,13,23,24,25],kR⟩
 ·exact⟨[0,1,2,3,6],kR⟩
 ·exact⟨[0,1,2,3,6],kR⟩
 ·exact⟨[0,1,2,3,6],kR⟩
noncomputable def xF:FuncId->Option CF
 | 176=>some ⟨3,9,[(.var 3)],LM,.plain⟩
 | 177=>some ⟨2,6,[(.var 3)],LN,.plain⟩
 | 178=>some ⟨2,11,[(.var 2)],LO,.plain⟩
 | 179=>some ⟨2,10,[(.var 2),(.var 3)],LQ,.plain⟩
 | 180=>some ⟨3,10,[],LR,.plain⟩
 | 182=>some ⟨1,5,[(.node (.ld 3 true) (.cons (.var 1) .nil)),(.var 2),(.var 3)],LS,.plain⟩
 | 183=>aY Tryz.prog Lt 183
 | 184=>some ⟨1,6,[(.var 1),(.var 2)],LU,.plain⟩
 | 185=>aY Tryz.prog Lu 185
 | 189=>some ⟨1,4,[(.var 1)],LV,.plain⟩
 | 190=>some ⟨2,9,[(.var 2)],LW,.plain⟩
 | _=>none
theorem xA(f:FuncId)(cf:CF)(h:xF f=some cf):∃t,aY Tryz.prog t f=some cf:=by
 unfold xF at h;split at h
 ·cases h;exact⟨[0,1,2,6,12,20,28,34,37],kR⟩
 ·cases h;exact⟨[0,1,3,4,6,17],kR⟩
 ·cases h;exact⟨[0,1,4,5,6,7,8,9,10,11,26],kR⟩
 ·cases h;exact⟨[0,1,4,5,6,7,8,9,15,25],kR⟩
 ·cases h;exact⟨[0,1,2,4,6,7,8,9,11,12],kR⟩
 ·cases h;exact⟨[0,2,3,4,5],kR⟩
 ·exact⟨_,h⟩
 ·cases h;exact⟨[0,2,3,4,24,29],kR⟩
 ·exact⟨_,h⟩
 ·cases h;exact⟨[0,2,5,7],kR⟩
 ·cases h;exact⟨[0,1,4,6,8,10,11,13,15],kR⟩
 ·simp at h
noncomputable def xG:FuncId->Option CF
 | 192=>some ⟨2,7,[(.var 3)],LX,.plain⟩
 | 193=>some ⟨3,5,[(.var 4)],LY,.plain⟩
 | 194=>some ⟨2,25,[(.var 2)],LZ,.plain⟩
 | 195=>some ⟨5,30,[(.var 5)],L0,.plain⟩
 | 196=>some ⟨2,14,[(.var 2)],L2,.plain⟩
 | 197=>some ⟨2,16,[(.var 2)],L3,.plain⟩
 | 198=>some ⟨1,3,[(.var 2)],L4,.plain⟩
 | 199=>some ⟨2,7,[(.var 2)],L5,.plain⟩
 | 200=>aY Tryz.prog Lv 200
 | 201=>some ⟨2,12,[(.var 2),(.var 3)],L6,.plain⟩
 | 203=>aY Tryz.prog Lw 203
 | 204=>some ⟨1,2,[(.var 1)],L7,.plain⟩
 | 205=>aY Tryz.prog Lx 205
 | 206=>some ⟨2,12,[(.node (.ld 7 true) (.cons (.var 2) .nil))],L8,.plain⟩
 | 207=>some ⟨3,21,[(.var 4)],L9,.plain⟩
 | _=>none
theorem xB(f:FuncId)(cf:CF)(h:xG f=some cf):∃t,aY Tryz.prog t f=some cf:=by
 unfold xG at h;split at h
 ·cases h;exact⟨[0,1,2,4,5,6,13],kR⟩
 ·cases h;exact⟨[0,1,2,3,6],kR⟩
 ·cases h;exact⟨[0,1,4,5,6,7,8,21,38,45,46,47,54,55,59,63,65,69,80,87,88,89,92,93,94],kR⟩
 ·cases h;exact⟨[0,1,2,3,4,10,11,12,14,16,18,19,23,29,33,34,35,38,43,44,45,48,53,54,55,58,69,80,81,82],kR⟩
 ·cases h;exact⟨[0,1,4,5,6,7,11,21,24,34,42,51,52,53],kR⟩
 ·cases h;exact⟨[0,1,4,5,6,7,8,9,12,21,22,23,57,61,62,63],kR⟩
 ·cases h;exact⟨[0,1,2],kR⟩
 ·cases h;exact⟨[0,1,4,5,6,8,10],kR⟩
 ·exact⟨_,h⟩
 ·cases h;exact⟨[0,1,4,5,6,7,8,9,10,11,12,13],kR⟩
 ·exact⟨_,h⟩
 ·cases h;exact⟨[0,2],kR⟩
 ·exact⟨_,h⟩
 ·cases h;exact⟨[0,1,4,5,6,7,29,42,45,46,47,48],kR⟩
 ·cases h;exact⟨[0,1,2,4,6,7,8,9,10,11,15,18,28,29,51,65,72,73,82,87,88],kR⟩
 ·simp at h
noncomputable def xH:FuncId->Option CF
 | 208=>some ⟨5,7,[(.node (.ld 7 true) (.cons (.var 5) .nil))],La,.plain⟩
 | 209=>aY Tryz.prog Ly 209
 | 210=>some ⟨4,5,[(.node (.ld 7 true) (.cons (.var 4) .nil))],Lb,.plain⟩
 | 211=>some ⟨1,2,[(.var 1)],Lc,.plain⟩
 | 212=>aY Tryz.prog Lz 212
 | _=>none
theorem xC(f:FuncId)(cf:CF)(h:xH f=some cf):∃t,aY Tryz.prog t f=some cf:=by
 unfold xH at h;split at h
 ·cases h;exact⟨[0,1,2,3,4,10,11],kR⟩
 ·exact⟨_,h⟩
 ·cases h;exact⟨[0,1,2,3,8],kR⟩
 ·cases h;exact⟨[0,2],kR⟩
 ·exact⟨_,h⟩
 ·simp at h
theorem J4(f:FuncId)(cf:CF)(h:EM f=some cf):bA cf=true:=by
 unfold EM at h;split at h
 ·cases h;kernel_rfl
 ·have:=Sm;rw[h]at this;exact this
 ·cases h;kernel_rfl
 ·have:=Sn;rw[h]at this;exact this
 ·simp at h
theorem J5(f:FuncId)(cf:CF)(h:EN f=some cf):bA cf=true:=by
 unfold EN at h;split at h<;>first|(cases h;exact kR)|simp at h
theorem J6(f:FuncId)(cf:CF)(h:EO f=some cf):bA cf=true:=by
 unfold EO at h;split at h<;>first|(cases h;exact kR)|simp at h
theorem J7(f:FuncId)(cf:CF)(h:EP f=some cf):bA cf=true:=by
 unfold EP at h;split at h
 ·cases h;kernel_rfl
 ·have:=So;rw[h]at this;exact this
 ·cases h;kernel_rfl
 ·cases h;kernel_rfl
 ·cases h;kernel_rfl
 ·cases h;kernel_rfl
 ·cases h;kernel_rfl
 ·cases h;kernel_rfl
 ·cases h;kernel_rfl
 ·cases h;kernel_rfl
 ·simp at h
theorem J8(f:FuncId)(cf:CF)(h:ER f=some cf):bA cf=true:=by
 unfold ER at h;split at h<;>first|(cases h;exact kR)|simp at h
theorem J9(f:FuncId)(cf:CF)(h:ES f=some cf):bA cf=true:=by
 unfold ES at h;split at h<;>first|(cases h;exact kR)|simp at h
theorem Ja(f:FuncId)(cf:CF)(h:ET f=some cf):bA cf=true:=by
 unfold ET at h;split at h<;>first|(cases h;exact kR)|simp at h
theorem Jb(f:FuncId)(cf:CF)(h:EU f=some cf):bA cf=true:=by
 unfold EU at h;split at h<;>first|(cases h;exact kR)|simp at h
theorem Jc(f:FuncId)(cf:CF)(h:EW f=some cf):bA cf=true:=by
 unfold EW at h;split at h<;>first|(cases h;exact kR)|simp at h
theorem Jd(f:FuncId)(cf:CF)(h:EX f=some cf):bA cf=true:=by
 unfold EX at h;split at h<;>first|(cases h;exact kR)|simp at h
theorem GM(f:FuncId)(cf:CF)(h:xE f=some cf):bA cf=true:=by
 unfold xE at h;split at h<;>first|(cases h;exact kR)|simp at h
theorem GN(f:FuncId)(cf:CF)(h:xF f=some cf):bA cf=true:=by
 unfold xF at h;split at h
 ·cases h;kernel_rfl
 ·cases h;kernel_rfl
 ·cases h;kernel_rfl
 ·cases h;kernel_rfl
 ·cases h;kernel_rfl
 ·cases h;kernel_rfl
 ·have:=Qa;rw[h]at this;exact this
 ·cases h;kernel_rfl
 ·have:=Qb;rw[h]at this;exact this
 ·cases h;kernel_rfl
 ·cases h;kernel_rfl
 ·simp at h
theorem GO(f:FuncId)(cf:CF)(h:xG f=some cf):bA cf=true:=by
 unfold xG at h;split at h
 ·cases h;kernel_rfl
 ·cases h;kernel_rfl
 ·cases h;kernel_rfl
 ·cases h;kernel_rfl
 ·cases h;kernel_rfl
 ·cases h;kernel_rfl
 ·cases h;kernel_rfl
 ·cases h;kernel_rfl
 ·have:=Qc;rw[h]at this;exact this
 ·cases h;kernel_rfl
 ·have:=Qd;rw[h]at this;exact this
 ·cases h;kernel_rfl
 ·have:=Qe;rw[h]at this;exact this
 ·cases h;kernel_rfl
 ·cases h;kernel_rfl
 ·simp at h
theorem GP(f:FuncId)(cf:CF)(h:xH f=some cf):bA cf=true:=by
 unfold xH at h;split at h
 ·cases h;kernel_rfl
 ·have:=Qf;rw[h]at this;exact this
 ·cases h;kernel_rfl
 ·cases h;kernel_rfl
 ·have:=Qg;rw[h]at this;exact this
 ·simp at h
noncomputable def cp(f:FuncId):Option CF:=match f/16 with
 | 0=>EM f
 | 1=>EN f
 | 2=>EO f
 | 3=>EP f
 | 4=>ER f
 | 5=>ES f
 | 6=>ET f
 | 7=>EU f
 | 8=>EW f
 | 9=>EX f
 | 10=>xE f
 | 11=>xF f
 | 12=>xG f
 | 13=>xH f
 | _=>none
theorem EG:na Tryz.prog cp:=by
 intro f cf h;unfold cp at h;split at h
 ·exact yu f cf h
 ·exact yv f cf h
 ·exact yw f cf h
 ·exact yx f cf h
 ·exact yy f cf h
 ·exact yz f cf h
 ·exact zA f cf h
 ·exact zB f cf h
 ·exact zC f cf h
 ·exact zD f cf h
 ·exact wz f cf h
 ·exact xA f cf h
 ·exact xB f cf h
 ·exact xC f cf h
 ·simp at h
theorem mQ(f:FuncId)(cf:CF)(h:cp f=some cf):bA cf=true:=by
 unfold cp at h;split at h
 ·exact J4 f cf h
 ·exact J5 f cf h
 ·exact J6 f cf h
 ·exact J7 f cf h
 ·exact J8 f cf h
 ·exact J9 f cf h
 ·exact Ja f cf h
 ·exact Jb f cf h
 ·exact Jc f cf h
 ·exact Jd f cf h
 ·exact GM f cf h
 ·exact GN f cf h
 ·exact GO f cf h
 ·exact GP f cf h
 ·simp at h
theorem mixed:Tryz.prog.follows .mixedOrders=true:=by kernel_rfl
theorem Q5(base n:Nat):RunOK Tryz.prog base Tryz.prog.globals.size (run cp n):=sound mixed EG base n
end Go.Proofs.YtmnlgdpdgjbfgaaGreat
