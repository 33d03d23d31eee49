/- Lemmas. -/
import Derived.Test.YtmnlgdpdgjbfgaaGreatF8
import Derived.Test.YtmnlgdpdgjbfgaaGreatProg
import Derived.KernelRfl
set_option linter.all false
namespace Go.Proofs.YtmnlgdpdgjbfgaaGreat
open Go.Abs
def JA:ByteArray:=⟨#[0,1,2,2,3,3,3,3,4,4,4,4,4,4,4,4,5,5,5,5,5,5,5,5,5,5,5,5,5,5,5,5,6,6,6,6,6,6,6,6,6,6,6,6,6,6,6,6,6,6,6,6,6,6,6,6,6,6,6,6,6,6,6,6,7,7,7,7,7,7,7,7,7,7,7,7,7,7,7,7,7,7,7,7,7,7,7,7,7,7,7,7,7,7,7,7,7,7,7,7,7,7,7,7,7,7,7,7,7,7,7,7,7,7,7,7,7,7,7,7,7,7,7,7,7,7,7,7,8,8,8,8,8,8,8,8,8,8,8,8,8,8,8,8,8,8,8,8,8,8,8,8,8,8,8,8,8,8,8,8,8,8,8,8,8,8,8,8,8,8,8,8,8,8,8,8,8,8,8,8,8,8,8,8,8,8,8,8,8,8,8,8,8,8,8,8,8,8,8,8,8,8,8,8,8,8,8,8,8,8,8,8,8,8,8,8,8,8,8,8,8,8,8,8,8,8,8,8,8,8,8,8,8,8,8,8,8,8,8,8,8,8,8,8,8,8,8,8,8,8,8,8,8,8,8,8]⟩
def U0:ByteArray:=⟨#[116,104,101,32,114,101,115,117,108,116,32,111,102,32,40,108,101,110,40,120,41,32,42,32,99,111,117,110,116,41,32,111,118,101,114,102,108,111,119,115]⟩
namespace K
def x(n:Nat):E:=.var n
def i(n:Int):E:=.cst<|.int .i64 n
def c(a b:E):E:=.cons a b
def c1(a:E):E:=.cons a .nil
def c2(a b:E):E:=.cons a<|.cons b .nil
def c3(a b c:E):E:=.cons a<|.cons b<|.cons c .nil
def n1(o:LOp)(a:E):E:=.node o<|.cons a .nil
def n2(o:LOp)(a b:E):E:=.node o<|.cons a<|.cons b .nil
def b(o:BinOp)(a b:E):E:=.node (.bin o)<|.cons a<|.cons b .nil
def ld(a:E):E:=.node (.ld 1 false)<|.cons a .nil
def fa(n:Nat)(a:E):E:=.node (.fAddr n)<|.cons a .nil
def ix(n:Nat)(a:E):E:=.node (.ext n)<|.cons a .nil
def p(a b c:E):E:=.pick a b c
def h(d:Nat)(o:HOp)(a:E):Stm:=.hv [] [] [] (some d) o a
def cl(d f:Nat)(a:E):Stm:=.hv [] [] [] (some d) (.call false)<|.cons (.cst<|.func (.func f) #[] #[]) a
def s(l:List<|Nat×E):Stm:=.sets l []
def q(a b:Stm):Stm:=.seq a b
def e:Stm:=.skip
def r:Stm:=.ret
def z:Value:=.int .i64 0
def u:Value:=.slice none 0 0
def f:E:=.cst<|.bool false
def t:E:=.cst<|.bool true
def hh(l:List<|Nat×E)(d:Nat)(o:HOp)(a:E):Stm:=.hv l [] [] (some d) o a
def ia(n:Nat)(a b:E):E:=.node (.iAddr n)<|.cons a<|.cons b .nil
def ln(a:E):E:=.node .len<|.cons a .nil
def bk(i:Nat)(a:Stm):Stm:=.block i a
def lt(n:Nat)(a:E):E:=.node (.ld n true)<|.cons a .nil
def xt(i:Nat):Stm:=.exit i
def lo(a:Stm):Stm:=.loop a
def ad(a b:E):E:=.node (.bin .add)<|.cons a<|.cons b .nil
instance (n:Nat):OfNat E n:=⟨.var n⟩
instance:HPow Stm Stm Stm:=⟨.seq⟩
theorem xv(n:Nat):(OfNat.ofNat n:E)=.var (@OfNat.ofNat Nat n<|instOfNatNat n):=rfl
theorem xq(a b:Stm):a^b=.seq a b:=rfl
def qs(l:List<|Nat×E)(a:Stm):Stm:=.seq (.sets l []) a
def lf(n:Nat)(a:E):E:=.node (.ld 1 false)<|.cons (.node (.fAddr n)<|.cons a .nil) .nil
def k(c:E)(a b:Stm):Stm:=.cond c a b
def kq(c:E)(a:Stm):Stm:=.cond c a .skip
def fn(n:Nat):E:=.cst<|.func (.func n) #[] #[]
def nk(n:Nat):E:=.node .nilChk<|.cons (.var n) .nil
def w(n:Nat)(a b:E):Stm:=.hv [] [] [] none (.st n)<|.cons a<|.cons b .nil
def v(o:HOp)(a:E):Stm:=.hv [] [] [] none o a
end K
def kB:=zzi @K.x.eq_1<|zzi @K.i.eq_1<|zzi @K.c.eq_1<|zzi @K.c1.eq_1<|zzi @K.c2.eq_1<|zzi @K.c3.eq_1<|zzi @K.n1.eq_1<|zzi @K.n2.eq_1<|zzi @K.b.eq_1<|zzi @K.ld.eq_1<|zzi @K.fa.eq_1<|zzi @K.ix.eq_1<|zzi @K.p.eq_1<|zzi @K.h.eq_1<|zzi @K.cl.eq_1<|zzi @K.s.eq_1<|zzi @K.q.eq_1<|zzi @K.e.eq_1<|zzi @K.r.eq_1<|zzi @K.z.eq_1<|zzi @K.u.eq_1<|zzi @K.f.eq_1<|zzi @K.t.eq_1<|zzi @K.qs.eq_1<|zzi @K.lf.eq_1<|zzi @K.k.eq_1<|zzi @K.kq.eq_1<|zzi @K.fn.eq_1<|zzi @K.nk.eq_1<|zzi @K.w.eq_1<|zzi @K.v.eq_1<|zzi @K.hh.eq_1<|zzi @K.ia.eq_1<|zzi @K.ln.eq_1<|zzi @K.bk.eq_1<|zzi @K.lt.eq_1<|zzi @K.xt.eq_1<|zzi @K.lo.eq_1<|zzi @K.ad.eq_1<|zzi @frm.eq_1<|zzi @frm.eq_2<|zzi @frz.eq_1<|zzi @frz.eq_2<|zzi @K.xv @K.xq
section
open K
def bd5:Stm:=
 s [(2,f)]^kq (b .gtr (ln 0)<|i 24) ((cl 7 12 .nil^s [(2,7)])^r)^(cl 8 18 (c2 0 1)^hh [(10,ix 1 8),(9,ix 0 8)] 3 (.alloc [z,z,u]) .nil^w 3 3 9^s [(4,
 10)])^(cl 11 19 (c2 0 1)^hh [(13,ix 1 11),(12,ix 0 11)] 5 (.alloc [z,z,u]) .nil^w 3 5 12^s [(6,13)])^(Stm.hv [(14,b .eql 4 6)] [] [(b .eql 4 6,true)]
 (some 15) (.call false) (c3 (fn 20) (lt 3 3)<|lt 3 5)^Stm.hv [(16,p 14 15 f)] [] [(p 14 15 f,true)] (some 17) (.call false) (c1<|fn 12)^s [(2,p 16 17
 f)])^r
def cf5:CF:=⟨2,18,[(.var 2)],bd5,.plain⟩
def TG:List Nat:=[0,1,2,3,4,5,6,7,8,9,10,11,12,13,14,16,18,23,24,25,26,36,41,42,43,44,45,48,53,54,55,62,63,64,65]
def Pv:Stm:=
 (h 2 .box (c1 1)^s [(4,i 0),(3,.cst u)])^((cl 14 27 (c3 0 (lt 7 2)<|lf 4 2)^s [(5,14)])^kq (b .neq 5<|i 0) (s [(4,5),(3,.cst u)]^r))^(cl 15 28 (c1 (lt
 7 2))^hh [(17,ix 1 15),(16,ix 0 15)] 6 (.alloc [z,z,z,z,z]) .nil^w 5 6 16^s [(7,17)])^kq (b .neq 7<|i 0) (s [(4,7),(3,.cst u)]^r)^(h 18 (.mkSl
 [z]) (c2 (ad (lf 4 2)<|lf 5 2)<|ad (lf 4 2)<|lf 5 2)^s [(8,18)])^(s [(20,i 0),(19,lf 6 2)]^bk 0 (lo<|k (b .lss 20 19) e (xt 0)^bk 1 (s [(9,20)]^(hh
 [(21,lt 5 6)] 22 (.call true) (c (fn 30)<|c3 0 (lf 6 2) 9)^h 23 .callC (c3 (fn 29) 21 22)^s [(11,ix 1 23),(10,ix 0 23)])^kq (b .neq 11<|i 0) (s [(4,
 11),(3,.cst u)]^r)^s [(26,i 0),(25,ln 10),(24,10)]^bk 2 (lo<|k (b .lss 26 25) e (xt 2)^bk 3 (s [(13,ld<|ia 1 24 26),(12,26)]^w 1 (ia 1 8<|ad 9 (b
 .mul 12<|lf 6 2)) 13)^s [(26,ad 26<|i 1)]))^s [(20,ad 20<|i 1)]))^s [(4,i 0),(3,8)]^r
def Pw:Stm:=
 (h 2 .box (c1 1)^s [(4,i 0),(3,.cst u)])^(cl 12 31 (c1<|lt 7 2)^kq (n1 (.un .not) 12) (s [(4,i 14),(3,.cst u)]^r))^kq (b .neq (ln 0)<|lf 4 2) (s [(4,i
 7),(3,.cst u)]^r)^(cl 13 32 (c1 0)^kq (n1 (.un .not) 13) (s [(4,i 3),(3,.cst u)]^r))^s [(5,.cst u)]^s [(6,.cst u)]^(s [(7,i 0)]^bk 0 (lo<|k (b .lss 7
 (lf 6 2)) e (xt 0)^bk 1 ((hh [(17,lf 6 2),(16,7),(15,0)] 14 (.call true) (c2 (fn 34)<|lt 7 2)^h 18 .callC (c (fn 35)<|c3 15 16 17)^h 19 .callC (c3 (fn
 33) 14 18)^Stm.sets [(8,ix 0 19)] [ix 1 19])^(hh [(20,5)] 21 (.bSl [u] 1 [0]) (c1 8)^h 22 (.app 1 [u]) (c2 20 21)^s [(5,22)])^hh [(23,6)] 24 (.bSl [z] 1
 [0]) (c1<|i 0)^h 25 (.app 1 [z]) (c2 23 24)^s [(6,25)])^s [(7,ad 7<|i 1)]))^s [(9,.cst u)]^(s [(10,i 0)]^bk 2 (lo (k (b .lss 10<|ad (lf 4 2)<|lf 5 2)
 e (xt 2)^bk 3 (s [(11,b .rem 10<|lf 6 2)]^(hh [(26,9)] 27 (.bSl [z] 1 [0]) (c1<|ld<|ia 1 (ld<|ia 1 5 11)<|ld<|ia 1 6 11)^h 28 (.app 1 [z]) (c2 26
 27)^s [(9,28)])^w 1 (ia 1 6 11) (ad (ld<|ia 1 6 11)<|i 1))^s [(10,ad 10<|i 1)])))^s [(4,i 0),(3,9)]^r
def TH:List Nat:=[0,1,4,5]
def TI:List Nat:=[0,1,3,4,5,6,7,8,9,10,11,12,13,14,15,16,17,25,31,32,33,39,41,42,46,51,52,53,54,63,64,65]
def Px:Stm:=
 (h 2 (.alloc [z,z,u]) .nil^s [(3,i 0)])^(cl 9 38 (c1 0)^s [(5,ix 1 9),(4,ix 0 9)])^kq (b .neq 5<|i 0) ((Stm.hv [(10,5)] [] [] none (.st 3) (c2 2 (.node
 (.build [z,z,u] []) .nil))^s [(3,10)])^r)^(cl 11 39 (c2 (n2 (.minmax true) (ln 4)<|i 1) 1)^hh [(13,ix 1 11),(12,ix 0 11)] 6 (.alloc [z,z,z,z,z,z,
 z]) .nil^w 7 6 12^s [(5,13)])^kq (b .neq 5<|i 0) ((Stm.hv [(14,5)] [] [] none (.st 3) (c2 2<|.node (.build [z,z,u] []) .nil)^s [(3,14)])^r)^(cl 15 40
 (c2 4<|lf 4 6)^s [(5,ix 1 15),(7,ix 0 15)])^kq (b .neq 5<|i 0) ((Stm.hv [(16,5)] [] [] none (.st 3) (c2 2<|.node (.build [z,z,u] []) .nil)^s [(3,
 16)])^r)^(cl 17 13 (c2 7<|lt 7 6)^s [(5,ix 1 17),(8,ix 0 17)])^kq (b .neq 5<|i 0) ((Stm.hv [(18,5)] [] [] none (.st 3) (c2 2<|.node (.build [z,z,u]
 []) .nil)^s [(3,18)])^r)^(cl 19 41 (c2 8<|lt 7 6)^Stm.hv [(20,ix 1 19)] [] [] none (.st 3) (c2 2<|ix 0 19)^s [(3,20)])^r
def Tp:CF:=⟨2,21,[(.node (.ld 3 true)<|.cons (.var 2) .nil),(.var 3)],Px,.plain⟩
def Py:Stm:=
 (h 2 (.alloc [z,z,u]) .nil^s [(3,i 0)])^(cl 10 25 (c1 0)^s [(5,ix 1 10),(4,ix 0 10)])^kq (b .neq 5<|i 0) ((Stm.hv [(11,5)] [] [] none (.st 3) (c2 2
 (.node (.build [z,z,u] []) .nil))^s [(3,11)])^r)^(cl 12 42 (c2 (n2 (.minmax true) (i 1)<|ln 4) 1)^hh [(14,ix 1 12),(13,ix 0 12)] 6 (.alloc [z,z,z,z,
 z,z,z]) .nil^w 7 6 13^s [(7,14)])^kq (b .neq 7<|i 0) ((Stm.hv [(15,7)] [] [] none (.st 3) (c2 2<|.node (.build [z,z,u] []) .nil)^s [(3,15)])^r)^(cl
 16 43 (c2 4<|lf 4 6)^Stm.sets [(8,ix 0 16)] [ix 1 16])^(cl 17 14 (c2 8<|lt 7 6)^Stm.sets [(9,ix 0 17)] [ix 1 17])^(cl 18 44 (c2 9<|lt 7 6)^Stm.hv [(19,
 ix 1 18)] [] [] none (.st 3) (c2 2<|ix 0 18)^s [(3,19)])^r
def Pz:Stm:=
 (h 2 .box (c1 0)^h 3 .box (c1 1)^s [(4,f)])^kq (p (p (b .neq (lf 0 2)<|lf 0 3) t<|b .neq (lf 1 2)<|lf 1 3) t<|b .neq (ln<|lf 2 2)<|ln<|lf 2 3) (s [(4,
 f)]^r)^(s [(5,i 0)]^bk 0 (lo (k (b .lss 5<|ln<|lf 2 2) e (xt 0)^bk 1 (kq (n2 (.eqB true) (ld<|ia 1 (lf 2 2) 5)<|ld<|ia 1 (lf 2 3) 5)<|s [(4,f)]^r)^s
 [(5,ad 5<|i 1)])))^s [(4,t)]^r
def TJ:List Nat:=[0,1,2,3,4,5,6,7,8,9,10,13,14,15,16,23,32]
def QA:Stm:=
 s [(2,i 0),(1,.cst u)]^kq (b .gtr (ln 0)<|i 4096) (s [(2,i 4),(1,.cst u)]^r)^(cl 10 49 (c1 0)^s [(3,10)])^s [(5,.cst u),(4,.cst u)]^((hh [(11,.node
 (.build [z,z,z,z,.bool false] []) .nil)] 6 (.alloc [z,z,z,z,.bool false]) .nil^w 5 6 11)^bk 0 (lo<|k (p (b .neq (lf 1 6)<|i 0) t<|b .lss (lf 0 6) (ln
 0)) e (xt 0)^bk 1 ((cl 12 50 (c3 0 (lt 5 6) 3)^h 7 (.alloc [z,z,z,z,z,z,z,z,.bool false]) .nil^w 9 7 12)^bk 2 (k (p (b .eql (lf 1 6)<|i 0) (b .eql
 (lf 0 7)<|i 231) f) ((hh [(19,4)] 20 (.bSl [z] 1 [0]) (c1<|i 231)^h 21 (.app 1 [z]) (c2 19 20)^s [(4,21)])^(hh [(22,4)] 23 (.call false) (c3 (fn 51) (lf
 1 7)<|ad (ln 4)<|i 1)^h 24 (.bSl [z] 1 [0]) (c1 23)^h 25 (.app 1 [z]) (c2 22 24)^s [(4,25)])^kq (b .geq (lf 2 7)<|i 0) (hh [(26,4)] 27 (.call false) (c3
 (fn 51) (lf 2 7)<|ad (ln 4)<|i 1)^h 28 (.bSl [z] 1 [0]) (c1 27)^h 29 (.app 1 [z]) (c2 26 28)^s [(4,29)])^s [(8,lf 0 6)]^bk 3 (lo<|k (b .lss 8<|lf 0 (fa 4
 7)) e (xt 3)^bk 4 (hh [(30,4)] 31 (.call false) (c3 (fn 51) (n1 (.cvt .i64)<|ld<|ia 1 0 8)<|ad (ln 4)<|i 1)^h 32 (.bSl [z] 1 [0]) (c1 31)^h 33 (.app 1
 [z]) (c2 30 32)^s [(4,33)])^s [(8,ad 8<|i 1)]))<|k (b .eql (lf 1 6)<|i 0) ((hh [(34,4)] 35 (.bSl [z] 1 [0]) (c1<|lf 0 7)^h 36 (.app 1 [z]) (c2 34 35)^s
 [(4,36)])^kq (b .geq (lf 1 7)<|i 0) (hh [(37,4)] 38 (.bSl [z] 1 [0]) (c1<|lf 1 7)^h 39 (.app 1 [z]) (c2 37 38)^s [(4,39)])) (k (b .eql (lf 1 6)<|i 4)
 ((hh [(40,5)] 41 (.bSl [z] 1 [0]) (c1<|lf 0 7)^h 42 (.app 1 [z]) (c2 40 41)^s [(5,42)])^kq (b .eql (lf 0 7)<|i 31) ((hh [(43,4)] 44 (.call false) (c2 (fn
 52) 5)^h 45 (.app 1 [z]) (c2 43 44)^s [(4,45)])^s [(5,.cst u)]))<|k (b .eql (lf 0 7)<|i 254) (hh [(46,4)] 47 (.bSl [z] 1 [0]) (c1<|i 254)^h 48 (.app 1
 [z]) (c2 46 47)^s [(4,48)])<|(hh [(13,5)] 14 (.bSl [z] 1 [0]) (c1<|lf 0 7)^h 15 (.app 1 [z]) (c2 13 14)^s [(5,15)])^kq (b .eql (ln 5)<|i 3) (s [(9,ad
 (ad (ad (b .mul (i 1600)<|ld<|ia 1 5<|i 0)<|b .mul (i 40)<|ld<|ia 1 5<|i 1)<|ld<|ia 1 5<|i 2)<|i 1)]^(hh [(16,4)] 17 (.bSl [z] 2 [0,1]) (c2 (b
 .quo 9<|i 256)<|b .rem 9<|i 256)^h 18 (.app 1 [z]) (c2 16 17)^s [(4,18)])^s [(5,.cst u)])))^w 5 6 (lt 5<|fa 4 7))^s [(49,lt 5 6)]^h 6 (.alloc [z,z,
 z,z,.bool false]) .nil^w 5 6 49))^s [(2,i 0),(1,4)]^r
def TK:List Nat:=[0,1,2,3,34,41,46,47,48]
def QB:Stm:=
 (h 3 .box (c1 1)^s [(4,i 0)])^(hh [(7,lt 7 3)] 6 (.call true) (c1<|fn 55)^h 8 .callC (c3 (fn 54) 6 7)^kq (n1 (.un .not) 8) (s [(4,i 14)]^r))^kq (b .neq (ln
 0) 2) (s [(4,i 7)]^r)^(s [(11,i 0),(10,ln 0),(9,0)]^bk 0 (lo<|k (b .lss 11 10) e (xt 0)^bk 1 (s [(5,ld<|ia 1 9 11)]^kq (p (b .lss 5<|i 0) t (b .gtr 5
 (i 255))) (s [(4,i 3)]^r))^s [(11,ad 11<|i 1)]))^s [(4,i 0)]^r
def QC:Stm:=
 (h 1 .box (c1 0)^h 2 (.alloc [z,z,z,z,z]) .nil^s [(3,i 0)])^(cl 6 56 (c2 (i 8)<|i 301)^hh [(8,ix 1 6),(7,ix 0 6)] 4 (.alloc [z,z,z]) .nil^w 3 4 7^s
 [(5,8)])^kq (b .neq 5<|i 0) ((Stm.hv [(9,5)] [] [] none (.st 5) (c2 2<|.node (.build [z,z,z,z,z] []) .nil)^s [(3,9)])^r)^(h 10 .callC (c (fn 57) (c3
 (lt 3 4) (b .quo (lf 5 1)<|lf 6 1)<|i 1))^Stm.hv [(11,ix 1 10)] [] [] none (.st 5) (c2 2<|ix 0 10)^s [(3,11)])^r
def QD:Stm:=
 (h 2 .box (c1 0)^s [(4,i 0),(3,.cst u)])^(cl 15 58 (c2 (lt 5 2) 1)^kq (n1 (.un .not) 15) (s [(4,i 1),(3,.cst u)]^r))^(Stm.hv [(16,b .eql (ln 1)<|i 0)]
 [] [(b .eql (ln 1)<|i 0,false)] (some 17) (.call false) (c3 (fn 59) (lt 5 2)<|ad (ln 1)<|lf 3 2)^kq (p 16 t<|n1 (.un .not) 17) (s [(4,i 7),(3,.cst
 u)]^r))^(cl 18 60 (c1<|lt 5 2)^s [(6,ix 1 18),(5,ix 0 18)])^kq (b .neq 6<|i 0) (s [(4,6),(3,.cst u)]^r)^s [(7,ad (ln 1)<|lf 3 2)]^(h 19 (.mkSl [z])
 (c2 7 7)^s [(8,19)])^(s [(22,i 0),(21,ln 1),(20,1)]^bk 0 (lo<|k (b .lss 22 21) e (xt 0)^bk 1 (s [(10,ld<|ia 1 20 22),(9,22)]^w 1 (ia 1 8<|b .sub (b
 .sub 7<|i 1) 9) 10)^s [(22,ad 22<|i 1)]))^(hh [(25,5),(23,lt 3<|fa 0 2)] 24 (.call true) (c2 (fn 62) 8)^h 26 .callC (c (fn 61) (c3 23 24
 25))^Stm.sets [(6,ix 2 26),(11,ix 1 26)] [ix 0 26])^kq (b .neq 6<|i 0) (s [(4,6),(3,.cst u)]^r)^(h 27 (.mkSl [z]) (c2 7 7)^s [(12,27)])^v (.cpy 1) (c2
 12 1)^(s [(30,i 0),(29,ln 11),(28,11)]^bk 2 (lo<|k (b .lss 30 29) e (xt 2)^bk 3 (s [(14,ld<|ia 1 28 30),(13,30)]^(hh [(32,b .sub (b .sub 7<|i 1)
 13),(31,12)] 33 (.call false) (c (fn 63)<|c3 (lt 3<|fa 0 2) (i 0) 14)^Stm.hv [(34,ix 1 33)] [] [] none (.st 1) (c2 (ia 1 31 32)<|ix 0 33)^s [(6,
 34)])^kq (b .neq 6<|i 0) (s [(4,6),(3,.cst u)]^r))^s [(30,ad 30<|i 1)]))^s [(4,i 0),(3,12)]^r
def QE:Stm:=
 s [(3,.cst u)]^s [(4,.cst u)]^(s [(5,2)]^bk 0 (lo<|k (b .lss 5<|ln 0) e (xt 0)^bk 1 (hh [(6,4)] 7 (.bSl [z] 1 [0]) (c1<|ld<|ia 1 0 5)^h 8 (.app 1 [z])
 (c2 6 7)^s [(4,8)])^s [(5,ad 5 1)]))^s [(3,4)]^r
def QF:Stm:=
 (h 1 .box (c1 0)^s [(2,f)])^(cl 5 26 .nil^s [(3,5)])^(s [(4,i 0)]^bk 0 (lo<|k (b .lss 4<|ln 3) e (xt 0)^bk 1 (kq (n2 (.eqA false [1,1,1,1,1,1,1]) (lt
 7<|ia 7 3 4)<|lt 7 1)<|s [(2,t)]^r)^s [(4,ad 4<|i 1)]))^s [(2,f)]^r
def QG:Stm:=
 s [(1,f)]^(s [(2,i 0)]^bk 0 (lo (k (b .lss 2<|ln 0) e (xt 0)^bk 1 (kq (p (b .lss (ld<|ia 1 0 2)<|i 0) t<|b .gtr (ld<|ia 1 0 2)<|i 255)<|s [(1,f)]^r)^s
 [(2,ad 2<|i 1)])))^s [(1,t)]^r
def QH:Stm:=
 (h 2 .box (c1 0)^s [(4,i 0),(3,.cst u)])^(cl 13 64 (c1<|lt 5 2)^Stm.hv [(14,n1 (.un .not) 13)] [] [(n1 (.un .not) 13,false)] (some 15) (.call false) (c3
 (fn 65) (lt 3<|fa 0 2) 1)^kq (p 14 t<|n1 (.un .not) 15) (s [(4,i 1),(3,.cst u)]^r))^kq (p (b .lss (ln 1)<|i 1) t<|b .gtr (ln 1)<|b .sub (b .sub (lf 1
 (fa 0 2))<|i 1)<|lf 3 2) (s [(4,i 7),(3,.cst u)]^r)^(cl 16 66 (c1<|lt 5 2)^s [(5,16)])^s [(6,.cst u)]^(h 17 (.app 1 [z]) (c2 6 1)^s [(6,17)])^(h 18
 (.mkSl [z]) (c2 (lf 3 2)<|lf 3 2)^s [(7,18)])^(s [(8,i 0)]^bk 0 (lo<|k (b .lss 8<|ln 1) e (xt 0)^bk 1 ((h 19 .callC (c (fn 67)<|c3 (lt 3<|fa 0 2) (ld (ia
 1 1 8))<|ld<|ia 1 7<|i 0)^s [(9,19)])^s [(10,i 0)]^bk 2 (lo<|k (b .lss 10<|lf 3 2) e (xt 2)^bk 3 (s [(11,i 0)]^kq (b .lss (ad 10<|i 1)<|lf 3 2) (s
 [(11,ld<|ia 1 7<|ad 10<|i 1)])^hh [(23,11),(22,lt 3<|fa 0 2),(21,10),(20,7)] 24 (.call true) (c (fn 69)<|c3 (lt 3<|fa 0 2) 9<|ld<|ia 1 5 (b .sub
 (b .sub (lf 3 2)<|i 1) 10))^h 25 .callC (c (fn 68)<|c3 22 23 24)^w 1 (ia 1 20 21) 25)^s [(10,ad 10<|i 1)]))^s [(8,ad 8<|i 1)]))^(s [(12,i 0)]^bk 4
 (lo<|k (b .lss 12<|lf 3 2) e (xt 4)^bk 5 (hh [(26,6)] 27 .callC (c (fn 68)<|c3 (lt 3<|fa 0 2) (i 0)<|ld<|ia 1 7 12)^h 28 (.bSl [z] 1 [0]) (c1 27)^h 29
 (.app 1 [z]) (c2 26 28)^s [(6,29)])^s [(12,ad 12<|i 1)]))^s [(4,i 0),(3,6)]^r
def QI:Stm:=
 (h 1 .box (c1 0)^h 2 (.alloc [z,z,z,z,z]) .nil)^(cl 4 70 (c3 (.node (.build [z,z,z] [(0,1),(1,1),(2,1)])<|c3 (i 2) (i 256)<|i 301) (b .quo (lf 5 1)
 (lf 6 1))<|i 1)^hh [(6,ix 1 4),(5,ix 0 4)] 3 (.alloc [z,z,z,z,z]) .nil^w 5 3 5^Stm.sets [] [6])^w 5 2 (lt 5 3)^r
def QJ:Stm:=
 s [(3,.cst u)]^s [(4,.cst u)]^(s [(5,1)]^bk 0 (lo<|k (b .lss 5<|ln 0) e (xt 0)^bk 1 (hh [(6,4)] 7 (.bSl [z] 1 [0]) (c1<|ld<|ia 1 0 5)^h 8 (.app 1 [z])
 (c2 6 7)^s [(4,8)])^s [(5,ad 5 2)]))^s [(3,4)]^r
def TL:List Nat:=[0,1,2,3,6,7,9,10,12,13,14,17,20,21,22,39,44,45,46,47,49,50,52,53,54,55,82,86,87,102,104,105]
def QK:Stm:=
 s [(2,i 0),(1,.cst u)]^kq (b .gtr (ln 0)<|i 4096) (s [(2,i 4),(1,.cst u)]^r)^(cl 3 75 (c1 0)^cl 4 76 (c1 3)^s [(2,i 0),(1,4)])^r
def QL:Stm:=
 (h 2 (.alloc [z,z,z,z,z,z,z]) .nil^s [(3,i 0)])^kq (b .lss 0<|i 1) ((w 7 2 (.node (.build [z,z,z,z,z,z,z] []) .nil)^s [(3,i 3)])^r)^kq (b .gtr 0
 (i 1558)) ((w 7 2 (.node (.build [z,z,z,z,z,z,z] []) .nil)^s [(3,i 16)])^r)^h 4 (.alloc [z,z,z,z,z,z,z]) .nil^((cl 6 55 .nil^s [(8,i 0),(7,ln
 6)])^bk 0 (lo<|k (b .lss 8 7) e (xt 0)^bk 1 ((hh [(9,lt 7<|ia 7 6 8)] 5 (.alloc [z,z,z,z,z,z,z]) .nil^w 7 5 9)^kq (p (p 1 (b .neq (lf 0 5)<|lf 1 5)
 f) t<|b .lss (lf 4 5) 0) (xt 1)^kq (p (b .eql (lf 4 4)<|i 0) t<|b .lss (lf 4 5)<|lf 4 4) (w 7 4<|lt 7 5))^s [(8,ad 8<|i 1)]))^(w 7 2 (lt 7 4)^s [(3,i
 0)])^r
def QM:Stm:=
 s [(3,i 0),(2,.cst u)]^(s [(9,i 0),(8,ln 0),(7,0)]^bk 0 (lo<|k (b .lss 9 8) e (xt 0)^bk 1 (s [(4,ld<|ia 1 7 9)]^kq (p (b .lss 4<|i 0) t<|b .gtr 4 (i
 255)) (s [(3,i 3),(2,.cst u)]^r))^s [(9,ad 9<|i 1)]))^kq (b .gtr 1<|i 8192) (s [(3,i 4),(2,.cst u)]^r)^kq (b .lss 1<|ln 0) (s [(3,i 16),(2,.cst
 u)]^r)^(h 10 (.mkSl [z]) (c2 1 1)^s [(5,10)])^v (.cpy 1) (c2 5 0)^(s [(6,ln 0)]^bk 2 (lo<|k (b .lss 6 1) e (xt 2)^bk 3 (w 1 (ia 1 5 6) (i 129)^kq (b .gtr 6
 (ln 0)) (w 1 (ia 1 5 6)<|ad (ld<|ia 1 5 6)<|ad (b .rem (b .mul (i 149)<|ad 6<|i 1)<|i 253)<|i 1)^kq (b .gtr (ld<|ia 1 5 6)<|i 254) (w 1 (ia 1 5 6) (b
 .sub (ld<|ia 1 5 6)<|i 254)))^s [(6,ad 6<|i 1)]))^s [(3,i 0),(2,5)]^r
def QN:Stm:=
 (h 2 .box (c1 1)^h 3 (.alloc [z,z,u]) .nil^s [(4,i 0)])^(hh [(14,lt 7 2)] 13 (.call true) (c1<|fn 55)^h 15 .callC (c3 (fn 54) 13 14)^kq (n1 (.un .not) 15)
 ((w 3 3 (.node (.build [z,z,u] []) .nil)^s [(4,i 14)])^r))^kq (b .neq (ln 0)<|ad (lf 4 2)<|lf 5 2) ((w 3 3 (.node (.build [z,z,u] []) .nil)^s [(4,i
 7)])^r)^(s [(18,i 0),(17,ln 0),(16,0)]^bk 0 (lo<|k (b .lss 18 17) e (xt 0)^bk 1 (s [(5,ld<|ia 1 16 18)]^kq (p (b .lss 5<|i 0) t<|b .gtr 5<|i 255)
 ((w 3 3 (.node (.build [z,z,u] []) .nil)^s [(4,i 3)])^r))^s [(18,ad 18<|i 1)]))^(cl 19 77 (c1<|lt 7 2)^s [(7,ix 1 19),(6,ix 0 19)])^(cl 20 78 (c2 6
 7)^s [(8,20)])^(hh [(22,lf 0 2),(21,lf 1 2)] 23 (.mkSl [.bool false]) (c2 (b .mul (lf 0 2)<|lf 1 2)<|b .mul (lf 0 2)<|lf 1 2)^hh [(24,.node (.build
 [z,z,u] [(0,1),(1,1),(2,1)])<|c3 21 22 23)] 9 (.alloc [z,z,u]) .nil^w 3 9 24)^(s [(26,i 0),(25,ln<|lf 2 9)]^bk 2 (lo<|k (b .lss 26 25) e (xt
 2)^bk 3 (s [(10,26)]^(h 27 .callC (c (fn 79)<|c3 (lt 7 2) (b .quo 10<|lf 0 9)<|b .rem 10<|lf 0 9)^h 11 (.alloc [.bool false,.bool false,z]) .nil^w 3 11
 27)^kq (lf 0 11) (w 1 (ia 1 (lf 2 9) 10) (lf 1 11)^xt 3)^s [(12,ld<|ia 1 8<|lf 2 11)]^k (b .geq 12<|i 0) (w 1 (ia 1 (lf 2 9) 10)<|b .eql (b .and (b .shr
 (ld<|ia 1 0<|b .quo 12<|i 8)<|b .sub (i 7)<|b .rem 12<|i 8)<|i 1)<|i 1) (hh [(29,10),(28,lf 2 9)] 30 (.call true) (c (fn 80)<|c3 6 7<|lf 2 11)^w
 1 (ia 1 28 29) 30))^s [(26,ad 26<|i 1)]))^(w 3 3 (lt 3 9)^s [(4,i 0)])^r
def Tq:CF:=⟨2,31,[(.node (.ld 3 true)<|.cons (.var 3) .nil),(.var 4)],QN,.plain⟩
def QO:Stm:=
 (h 2 (.alloc [z,z,z,z,z,z,z]) .nil^s [(3,i 0)])^kq (b .lss 0<|i 1) ((w 7 2 (.node (.build [z,z,z,z,z,z,z] []) .nil)^s [(3,i 3)])^r)^(hh [(8,
 .node (.build [z,z,z,z,z,z,z] []) .nil)] 4 (.alloc [z,z,z,z,z,z,z]) .nil^w 7 4 8)^(cl 9 26 .nil^s [(5,9)])^(s [(6,i 0)]^bk 0 (lo<|k (b .lss 6
 (ln 5)) e (xt 0)^bk 1 ((hh [(10,lt 7<|ia 7 5 6)] 7 (.alloc [z,z,z,z,z,z,z]) .nil^w 7 7 10)^kq (p (p (b .geq (lf 4 7) 0) (p (b .eql (lf 0 7)<|lf 1 7)
 t<|n1 (.un .not) 1) f) (p (b .eql (lf 4 4)<|i 0) t<|b .lss (lf 4 7)<|lf 4 4) f) (w 7 4<|lt 7 7))^s [(6,ad 6<|i 1)]))^kq (b .eql (lf 4 4)<|i 0) ((w 7
 2 (.node (.build [z,z,z,z,z,z,z] []) .nil)^s [(3,i 16)])^r)^(w 7 2 (lt 7 4)^s [(3,i 0)])^r
def QP:Stm:=
 s [(3,i 0),(2,.cst u)]^(cl 7 81 (c1 0)^kq (n1 (.un .not) 7) (s [(3,i 3),(2,.cst u)]^r))^kq (b .gtr 1<|i 8192) (s [(3,i 4),(2,.cst u)]^r)^kq (b .lss 1
 (ln 0)) (s [(3,i 16),(2,.cst u)]^r)^s [(4,.cst u)]^(h 8 (.app 1 [z]) (c2 4 0)^s [(4,8)])^(s [(5,ad (ln 0)<|i 1)]^bk 0 (lo (k (b .leq 5 1) e (xt 0)^bk 1
 (s [(6,i 129)]^kq (b .gtr 5<|ad (ln 0)<|i 1) (s [(6,ad (ad 6<|b .rem (b .mul (i 149) 5)<|i 253)<|i 1)])^kq (b .gtr 6<|i 254) (s [(6,b .sub 6 (i
 254))])^hh [(9,4)] 10 (.bSl [z] 1 [0]) (c1 6)^h 11 (.app 1 [z]) (c2 9 10)^s [(4,11)])^s [(5,ad 5<|i 1)])))^s [(3,i 0),(2,4)]^r
def QQ:Stm:=
 (h 2 .box (c1 1)^h 3 (.alloc [z,z,u]) .nil^s [(4,i 0)])^s [(5,f)]^(cl 19 26 .nil^s [(6,19)])^(s [(7,i 0)]^bk 0 (lo<|k (b .lss 7<|ln 6) e (xt 0)^bk 1 (s
 [(5,p 5 t<|n2 (.eqA false [1,1,1,1,1,1,1]) (lt 7<|ia 7 6 7)<|lt 7 2)])^s [(7,ad 7<|i 1)]))^kq (n1 (.un .not) 5) ((w 3 3 (.node (.build [z,z,u]
 []) .nil)^s [(4,i 14)])^r)^kq (b .neq (ln 0)<|ad (lf 4 2)<|lf 5 2) ((w 3 3 (.node (.build [z,z,u] []) .nil)^s [(4,i 7)])^r)^(s [(8,i 0)]^bk 2 (lo<|k (b
 .lss 8<|ln 0) e (xt 2)^bk 3 (kq (p (b .lss (ld<|ia 1 0 8)<|i 0) t<|b .gtr (ld<|ia 1 0 8)<|i 255)<|(w 3 3 (.node (.build [z,z,u] []) .nil)^s [(4,i
 3)])^r)^s [(8,ad 8<|i 1)]))^(cl 20 82 (c1<|lt 7 2)^s [(10,ix 1 20),(9,ix 0 20)])^(cl 21 83 (c2 9 10)^s [(11,21)])^(hh [(22,n2 (.build [z,z,u] [(0,
 1),(1,1)]) (lf 1 2)<|lf 0 2)] 12 (.alloc [z,z,u]) .nil^w 3 12 22)^(s [(13,i 0)]^bk 4 (lo<|k (b .lss 13<|lf 1 12) e (xt 4)^bk 5 (s [(14,i 0)]^bk 6 (lo
 (k (b .lss 14<|lf 0 12) e (xt 6)^bk 7 ((cl 23 84 (c3 (lt 7 2) 14 13)^s [(16,ix 1 23),(15,ix 0 23)])^kq (n1 (.un .not) 15) ((cl 24 85 (c3 (lt 7 2) 14 13)^s
 [(17,24)])^s [(18,ld<|ia 1 11 17)]^k (b .geq 18<|i 0) (s [(16,b .eql (b .rem (b .shr (ld<|ia 1 0<|b .quo 18<|i 8)<|n1 (.cvt .u64)<|b .sub (i 7) (b
 .rem 18<|i 8))<|i 2)<|i 1)]) (s [(16,p (b .eql 17<|b .sub (b .mul 9 10)<|i 1) t<|b .eql 17<|b .sub (b .sub (b .mul 9 10) 10)<|i 2)]))^hh [(25,lf 2
 12)] 26 (.bSl [.bool false] 1 [0]) (c1 16)^h 27 (.app 1 [.bool false]) (c2 25 26)^w 1 (fa 2 12) 27)^s [(14,ad 14<|i 1)])))^s [(13,ad 13<|i 1)]))^(w 3 3
 (lt 3 12)^s [(4,i 0)])^r
def TM:List Nat:=[0,1,2,3,4,5,6,7,8,9,10,11,12,13,15,18,21,28,30,33,39,41,42,43,57]
def TN:List Nat:=[0,2,3,5,6,7,8,9,10,11,27,53]
def QR:Stm:=
 s [(1,.cst u)]^(h 9 (.mkSl<|List.replicate 128 z) (c2 (ad (ln 0)<|i 1)<|ad (ln 0)<|i 1)^s [(2,9)])^(s [(3,ln 0)]^bk 0 (lo (k (b .geq 3<|i 0) e (xt 0)^bk
 1 ((cl 10 94 (c1 3)^s [(4,10)])^(s [(5,i 0)]^bk 2 (lo<|k (b .lss 5<|i 128) e (xt 2)^bk 3 (w 1 (n2 (.iAddrA 128 1) (fa 0<|ia 128 2 3) 5) (i
 1099511627776))^s [(5,ad 5<|i 1)]))^s [(6,t)]^bk 4 (lo<|k 6 e (xt 4)^bk 5 (s [(6,f)]^s [(7,i 0)]^bk 6 (lo<|k (b .lss 7<|ln 4) e (xt 6)^bk 7 ((cl 11 95
 (c3 0 (lt 5<|ia 5 4 7) 2)^s [(8,11)])^hh [(14,fa 0<|ia 128 2 3),(12,8)] 13 .callC (c2 (fn 96)<|lt 5<|ia 5 4 7)^kq (b .lss 12<|ld (n2 (.iAddrA 128 1)
 14 13)) ((hh [(17,fa 0<|ia 128 2 3),(16,8)] 15 .callC (c2 (fn 96)<|lt 5<|ia 5 4 7)^w 1 (n2 (.iAddrA 128 1) 17 15) 16)^s [(6,t)]))^s [(7,ad 7 (i
 1))]))))^s [(3,b .sub 3<|i 1)])))^s [(1,2)]^r
def QT:Stm:=
 (h 3 .box (c1 1)^h 4 (.alloc [z,z,z,z,z,z,z,z,.bool false]) .nil)^(cl 9 97 (c2 0<|lt 5 3)^s [(5,9)])^(hh [(10,.node (.build [z,z,z,z,z,z,z,z,
 .bool false] []) .nil)] 6 (.alloc [z,z,z,z,z,z,z,z,.bool false]) .nil^w 9 6 10^s [(7,f)])^(s [(8,i 0)]^bk 0 (lo (k (b .lss 8<|ln 5) e (xt 0)^bk 1
 (hh [(17,fa 0<|ia 128 2<|lf 0 3),(15,lt 5 3),(13,fa 0<|ia 128 2<|lf 0<|fa 4<|ia 9 5 8),(11,lf 3<|ia 9 5 8)] 12 (.call true) (c2 (fn 96) (lt 5
 (fa 4<|ia 9 5 8)))^hh [(14,ad 11<|ld<|n2 (.iAddrA 128 1) 13 12)] 16 (.call true) (c2 (fn 96) 15)^Stm.hv [(19,p (b .eql 14<|ld (n2 (.iAddrA 128 1) 17
 16)) (n1 (.un .not) 7)<|.cst<|.tuple #[]),(18,b .eql 14<|ld<|n2 (.iAddrA 128 1) 17 16)] [] [(b .eql 14<|ld<|n2 (.iAddrA 128 1) 17 16,true),(n1 (.un
 .not) 7,false)] (some 20) .callC (c3 (fn 98) (lt 9<|ia 9 5 8)<|lt 9 6)^kq (p 18 (p 19 t 20) f) (w 9 6 (lt 9<|ia 9 5 8)^s [(7,t)]))^s [(8,ad 8 (i
 1))])))^w 9 4 (lt 9 6)^r
def QU:Stm:=
 s [(2,i 0)]^s [(2,b .rem (ad (ad 0<|b .rem (b .mul (i 149) 1)<|i 255)<|i 1)<|i 256)]^r
def QV:Stm:=
 s [(1,.cst u)]^(h 4 (.mkSl [z]) (c2 (b .quo (ad (b .mul (i 6)<|ln 0)<|i 7)<|i 8)<|b .quo (ad (b .mul (i 6)<|ln 0)<|i 7)<|i 8)^s [(2,4)])^(s [(3,i
 0)]^bk 0 (lo<|k (b .lss 3<|b .mul (i 6)<|ln 0) e (xt 0)^bk 1 (kq (b .eql (b .and (b .shr (ld<|ia 1 0<|b .quo 3<|i 6)<|n1 (.cvt .u64)<|b .sub (i 5) (b
 .rem 3<|i 6))<|i 1)<|i 1)<|w 1 (ia 1 2<|b .quo 3<|i 8)<|ad (ld<|ia 1 2<|b .quo 3<|i 8)<|b .shl (i 1)<|n1 (.cvt .u64)<|b .sub (i 7)<|b .rem 3 (i
 8))^s [(3,ad 3<|i 1)]))^s [(1,2)]^r
def TO:List Nat:=[0,1,2]
def My:Stm:=
 (h 2 .box (c1 1)^s [(3,f)])^(cl 4 99 (c2 0<|lt 7 2)^s [(3,b .geq 4<|i 0)])^r
def TP:List Nat:=[0,1,2,3,4,35,36,37,38,40,41]
def QW:Stm:=
 (h 2 (.alloc [z,z,z]) .nil^s [(3,i 0)])^kq (p (b .lss 0<|i 1) t<|b .gtr 0<|i 12) ((w 3 2 (.node (.build [z,z,z] []) .nil)^s [(3,i 3)])^r)^(hh [(5,
 .node (.build [z,z,z] [(0,1),(1,1),(2,1)])<|c3 (i 2) (b .shl (i 1) 0) 1)] 4 (.alloc [z,z,z]) .nil^w 3 4 5)^(cl 6 100 (c1<|lt 3 4)^kq (n1 (.un .not)
 6) ((w 3 2 (.node (.build [z,z,z] []) .nil)^s [(3,i 38)])^r))^(w 3 2 (lt 3 4)^s [(3,i 0)])^r
def QX:Stm:=
 (h 3 .box (c1 0)^h 4 (.alloc [z,z,z,z,z]) .nil^s [(5,i 0)])^(cl 6 100 (c1<|lt 3 3)^kq (n1 (.un .not) 6) ((w 5 4 (.node (.build [z,z,z,z,z] []) .nil)^s
 [(5,i 1)])^r))^(cl 7 101 (c3 (lt 3 3) 1 2)^kq (n1 (.un .not) 7) ((w 5 4 (.node (.build [z,z,z,z,z] []) .nil)^s [(5,i 3)])^r))^(w 5 4 (.node (.build [z,
 z,z,z,z] [(0,3),(3,1),(4,1)])<|c3 (lt 3 3) 1 2)^s [(5,i 0)])^r
def QY:Stm:=
 (h 2 .box (c1 0)^s [(3,f)])^(cl 4 100 (c1<|lt 3<|fa 0 2)^Stm.hv [(5,4)] [] [(4,true)] (some 6) (.call false) (c (fn 101)<|c3 (lt 3<|fa 0 2) (lf 3 2) (lf 4
 2))^Stm.hv [(7,p 5 6 f)] [] [(p 5 6 f,true)] (some 8) (.call false) (c3 (fn 102) (lt 3<|fa 0 2) 1)^s [(3,p 7 8 f)])^r
def QZ:Stm:=
 (h 2 .box (c1 0)^s [(3,f)])^s [(3,p (b .gtr 1<|lf 3 2) (b .lss 1<|lf 1<|fa 0 2) f)]^r
def Q0:Stm:=
 (h 1 .box (c1 0)^s [(3,i 0),(2,.cst u)])^(cl 7 58 (c2 (lt 5 1)<|.cst u)^kq (n1 (.un .not) 7) (s [(3,i 1),(2,.cst u)]^r))^(cl 8 71 (c1<|lt 3<|fa 0 1)^h
 4 (.alloc [z,z,u,u]) .nil^w 4 4 8)^(h 9 (.mkSl [z]) (c2 (lf 3 1)<|lf 3 1)^s [(5,9)])^(s [(11,i 0),(10,ln 5)]^bk 0 (lo (k (b .lss 11 10) e (xt 0)^bk 1
 (s [(6,11)]^hh [(13,6),(12,5)] 14 (.call false) (c3 (fn 103) (lt 4 4)<|ad (lf 4 1) 6)^w 1 (ia 1 12 13) 14)^s [(11,ad 11<|i 1)])))^(cl 15 104 (c2 (lt 3
 (fa 0 1)) 5)^s [(3,ix 1 15),(2,ix 0 15)])^r
def Q1:Stm:=
 (h 3 .box (c1 0)^s [(6,i 0),(5,.cst u),(4,.cst u)])^(hh [(7,lt 3 3)] 8 (.bSl [u] 2 [0,1]) (c2 1 2)^cl 9 105 (c2 7 8)^kq (n1 (.un .not) 9) (s [(6,i 1),
 (5,.cst u),(4,.cst u)]^r))^kq (b .eql (ln 2)<|i 0) (s [(6,i 12),(5,.cst u),(4,.cst u)]^r)^(cl 10 106 (c1<|lt 3 3)^cl 11 107 (c3 10 1 2)^s [(5,ix 1
 11),(4,ix 0 11)])^s [(6,i 0),(5,5),(4,4)]^r
def Mz:Stm:=
 s [(1,.cst u)]^s [(2,ln 0)]^bk 0 (lo<|k (p (b .gtr 2<|i 0) (b .eql (ld<|ia 1 0<|b .sub 2<|i 1)<|i 0) f) e (xt 0)^bk 1 (s [(2,b .sub 2<|i 1)]))^(h 3
 (.app 1 [z]) (c2 (.cst u)<|n2 (.sl 1 false true false) 0 2)^s [(1,3)])^r
def Q3:Stm:=
 (h 3 .box (c1 0)^s [(5,i 0),(4,i 0)])^(hh [(6,lt 3 3)] 7 (.bSl [z] 2 [0,1]) (c2 1 2)^cl 8 108 (c2 6 7)^kq (n1 (.un .not) 8) (s [(5,i 1),(4,i 0)]^r))^kq
 (b .neq (lf 2 3)<|i 0) (s [(5,i 0),(4,b .xor 1 2)]^r)^s [(5,i 0),(4,b .rem (ad (b .sub 1 2)<|lf 1 3)<|lf 1 3)]^r
def Q4:Stm:=
 (h 1 .box (c1 0)^s [(2,f)])^s [(3,lf 1<|fa 0 1)]^(cl 4 109 (c1<|lt 3<|fa 0 1)^s [(2,p (p (p (p 4 (b .geq (lf 3 1)<|i 1) f) (b .leq (lf 3 1)<|b .sub 3 (i
 2)) f) (b .geq (lf 4 1)<|i 0) f) (b .leq (lf 4 1)<|b .sub 3<|i 2) f)])^r
def Q5:Stm:=
 (h 2 .box (c1 0)^s [(3,f)])^(s [(4,i 0)]^bk 0 (lo<|k (b .lss 4<|ln 1) e (xt 0)^bk 1 (h 5 .callC (c3 (fn 110) (lt 3 2)<|ld<|ia 1 1 4)^kq (n1 (.un .not) 5)
 (s [(3,f)]^r))^s [(4,ad 4<|i 1)]))^s [(3,t)]^r
def Q6:Stm:=
 (h 1 .box (c1 0)^s [(2,.cst u)])^(h 6 (.bSl [z] 1 [0]) (c1<|i 1)^s [(3,6)])^(cl 7 111 (c1<|lt 5 1)^s [(4,7)])^(s [(5,i 0)]^bk 0 (lo (k (b .lss 5<|ln 4) e
 (xt 0)^bk 1 (hh [(12,ad (ln 3)<|i 1),(9,3),(8,lt 3<|fa 0 1)] 10 (.call true) (c (fn 68)<|c3 (lt 3<|fa 0 1) (i 0)<|ld<|ia 1 4 5)^h 11 (.bSl [z] 2
 [0,1]) (c2 10<|i 1)^h 13 .callC (c (fn 112)<|c 8<|c3 9 11 12)^s [(3,13)])^s [(5,ad 5<|i 1)])))^s [(2,3)]^r
def Q7:Stm:=
 (h 3 .box (c1 0)^s [(4,i 0)])^kq (b .eql (lf 0 3)<|i 2) (s [(4,b .xor 1 2)]^r)^s [(4,b .rem (ad 1 2)<|lf 1 3)]^r
def Q8:Stm:=
 (h 3 .box (c1 0)^s [(4,i 0)])^kq (b .eql (lf 0 3)<|i 2) (s [(4,b .xor 1 2)]^r)^s [(4,b .rem (b .sub (ad 1<|lf 1 3) 2)<|lf 1 3)]^r
def Q9:Stm:=
 (h 3 .box (c1 0)^s [(4,i 0)])^kq (b .neq (lf 0 3)<|i 2) (s [(4,b .rem (b .mul 1 2)<|lf 1 3)]^r)^s [(5,i 0)]^(s [(6,i 0)]^bk 0 (lo<|k (b .gtr (b .shr 2 (n1
 (.cvt .u64) 6))<|i 0) e (xt 0)^bk 1 (kq (b .eql (b .and (b .shr 2<|n1 (.cvt .u64) 6)<|i 1)<|i 1)<|s [(5,b .xor 5<|b .shl 1<|n1 (.cvt .u64) 6)])^s [(6,
 ad 6<|i 1)]))^(cl 7 113 (c2 5<|lf 2 3)^s [(4,7)])^r
def Qa:Stm:=
 (h 3 .box (c1 0)^h 4 (.alloc [z,z,z,z,z]) .nil^s [(5,i 0)])^(cl 7 109 (c1<|lt 3 3)^kq (n1 (.un .not) 7) ((w 5 4 (.node (.build [z,z,z,z,z] []) .nil)^s
 [(5,i 1)])^r))^(hh [(8,.node (.build [z,z,z,z,z] [(0,3),(3,1),(4,1)])<|c3 (lt 3 3) 1 2)] 6 (.alloc [z,z,z,z,z]) .nil^w 5 6 8)^(cl 9 64 (c1 (lt
 5 6))^kq (n1 (.un .not) 9) ((w 5 4 (.node (.build [z,z,z,z,z] []) .nil)^s [(5,i 3)])^r))^(w 5 4 (lt 5 6)^s [(5,i 0)])^r
def Qb:Stm:=
 (h 1 .box (c1 0)^h 2 (.alloc [z,z,u,u]) .nil)^(cl 7 114 (c1<|lt 3 1)^Stm.sets [(3,ix 0 7)] [ix 1 7])^(hh [(11,lf 1 1),(9,lf 1 1),(8,lf 0 1)] 10 (.mkSl
 [z]) (c2 (b .sub (lf 1 1)<|i 1)<|b .sub (lf 1 1)<|i 1)^h 12 (.mkSl [z]) (c2 11 11)^hh [(13,.node (.build [z,z,u,u] [(0,1),(1,1),(2,1),(3,1)]) (c
 8<|c3 9 10 12))] 4 (.alloc [z,z,u,u]) .nil^w 4 4 13)^s [(5,i 1)]^(s [(15,i 0),(14,ln<|lf 2 4)]^bk 0 (lo<|k (b .lss 15 14) e (xt 0)^bk 1 (s [(6,
 15)]^(Stm.hv [(20,ia 1 (lf 2 4) 6),(19,6),(18,5),(17,lf 3 4),(16,fa 3 4)] [] [] none (.st 1) (c2 (ia 1 (lf 2 4) 6) 5)^w 1 (ia 1 17 18) 19^Stm.dist 20
 16)^cl 21 115 (c3 (lt 3 1) 5 3)^Stm.sets [(5,ix 0 21)] [ix 1 21])^s [(15,ad 15<|i 1)]))^w 4 2 (lt 4 4)^r
def TQ:List Nat:=[0,2,3,5,18,19,20,21,26]
def Qc:Stm:=
 s [(1,.cst<|.pointer none)]^(hh [(5,0)] 6 (.mkSl [z,z,z,z,z,z,z,z,z,z,z,z,z,z,z,z,z,z,z]) (c2 (ad (ln 0)<|i 1)<|ad (ln 0)<|i 1)^h 7 .box
 (c1<|n2 (.build [u,u] [(0,1),(1,1)]) 5 6)^s [(2,7)])^(s [(3,ln 0)]^bk 0 (lo<|k (b .geq 3<|i 0) e (xt 0)^bk 1 ((s [(8,i 0)]^bk 2 (lo<|k (b .lss 8 (i
 19)) e (xt 2)^bk 3 (s [(4,8)]^w 1 (n2 (.iAddrA 19 1) (ia 19 (lf 1<|nk 2) 3) 4) (i 1073741824))^s [(8,ad 8<|i 1)]))^kq (b .eql 3<|ln 0) (w 1 (n2 (.iAddrA
 19 1) (ia 19 (lf 1<|nk 2) 3)<|i 0)<|i 0)^v (.call false) (c3 (fn 128) 2 3))^s [(3,b .sub 3<|i 1)]))^s [(1,2)]^r
def mc:Stm:=
 s [(1,.cst u)]^Stm.scope ((h 8 (.mkSl [z]) (c2 (i 0)<|ld<|n2 (.iAddrA 19 1) (ia 19 (lf 1<|nk 0)<|i 0)<|i 0)^s [(2,8)])^s [(4,i 0),(3,i 0)]^h 5 (.alloc
 [z,z,z,z,z,z,z]) .nil^e^kq (p (b .eql 4<|i 0) (b .eql 3<|ln<|lf 0<|nk 0) f) (s [(1,2)]^r)^(cl 9 129 (c3 0 3 4)^w 7 5 9)^kq (b .gtr (lf 4 5)<|i 0)
 (xt 1000001)^(h 10 (.app 1 [z]) (c2 2<|n2 (.slA 3 1 false true false) (fa 0 5)<|lf 3 5)^s [(2,10)])^xt 1000002^e^(hh [(11,2)] 12 (.bSl [z] 1 [0]) (c1 (ld
 (n2 (.iAddrA 3 1) (fa 0 5)<|i 0)))^h 13 (.app 1 [z]) (c2 11 12)^s [(2,13)])^(s [(16,i 0),(15,ln<|.node (.slA 3 1 true true false)<|c3 (fa 0 5) (i 1) (lf
 3 5)),(14,.node (.slA 3 1 true true false)<|c3 (fa 0 5) (i 1)<|lf 3 5)]^bk 0 (lo<|k (b .lss 16 15) e (xt 0)^bk 1 (s [(6,ld<|ia 1 14 16)]^hh [(18,6),
 (17,2)] 19 (.call false) (c2 (fn 130)<|ln 2)^h 20 (.bSl [z] 1 [0]) (c1<|b .rem (ad 18 19)<|i 256)^h 21 (.app 1 [z]) (c2 17 20)^s [(2,21)])^s [(16,ad 16
 (i 1))]))^(s [(24,i 0),(23,ln<|.node (.sl 1 true true false)<|c3 (lf 0<|nk 0) 3<|ad 3<|lf 4 5),(22,.node (.sl 1 true true false) (c3 (lf 0<|nk 0)
 3<|ad 3<|lf 4 5))]^bk 2 (lo<|k (b .lss 24 23) e (xt 2)^bk 3 (s [(7,ld<|ia 1 22 24)]^hh [(26,n1 (.cvt .i64) 7),(25,2)] 27 (.call false) (c2 (fn 130) (ln
 2))^h 28 (.bSl [z] 1 [0]) (c1<|b .rem (ad 26 27)<|i 256)^h 29 (.app 1 [z]) (c2 25 28)^s [(2,29)])^s [(24,ad 24<|i 1)]))^e^s [(4,lf 6 5),(3,lf 5
 5)]^xt 1000000) (.alt 0 (e^kq (p (b .eql 4<|i 0) (b .eql 3<|ln<|lf 0<|nk 0) f) (s [(1,2)]^r)^(cl 9 129 (c3 0 3 4)^w 7 5 9)^kq (b .gtr (lf 4 5)<|i 0) (xt
 1000001)^(h 10 (.app 1 [z]) (c2 2<|n2 (.slA 3 1 false true false) (fa 0 5)<|lf 3 5)^s [(2,10)])^xt 1000002^e^(hh [(11,2)] 12 (.bSl [z] 1 [0]) (c1<|ld (n2
 (.iAddrA 3 1) (fa 0 5)<|i 0))^h 13 (.app 1 [z]) (c2 11 12)^s [(2,13)])^(s [(16,i 0),(15,ln<|.node (.slA 3 1 true true false)<|c3 (fa 0 5) (i 1) (lf 3
 5)),(14,.node (.slA 3 1 true true false)<|c3 (fa 0 5) (i 1)<|lf 3 5)]^bk 0 (lo<|k (b .lss 16 15) e (xt 0)^bk 1 (s [(6,ld<|ia 1 14 16)]^hh [(18,6),
 (17,2)] 19 (.call false) (c2 (fn 130)<|ln 2)^h 20 (.bSl [z] 1 [0]) (c1<|b .rem (ad 18 19)<|i 256)^h 21 (.app 1 [z]) (c2 17 20)^s [(2,21)])^s [(16,ad 16
 (i 1))]))^(s [(24,i 0),(23,ln<|.node (.sl 1 true true false)<|c3 (lf 0<|nk 0) 3<|ad 3<|lf 4 5),(22,.node (.sl 1 true true false) (c3 (lf 0<|nk 0)
 3<|ad 3<|lf 4 5))]^bk 2 (lo<|k (b .lss 24 23) e (xt 2)^bk 3 (s [(7,ld<|ia 1 22 24)]^hh [(26,n1 (.cvt .i64) 7),(25,2)] 27 (.call false) (c2 (fn 130) (ln
 2))^h 28 (.bSl [z] 1 [0]) (c1<|b .rem (ad 26 27)<|i 256)^h 29 (.app 1 [z]) (c2 25 28)^s [(2,29)])^s [(24,ad 24<|i 1)]))^e^s [(4,lf 6 5),(3,lf 5
 5)]^xt 1000000)<|.alt 1 (e^(hh [(11,2)] 12 (.bSl [z] 1 [0]) (c1<|ld<|n2 (.iAddrA 3 1) (fa 0 5)<|i 0)^h 13 (.app 1 [z]) (c2 11 12)^s [(2,13)])^(s [(16,i
 0),(15,ln<|.node (.slA 3 1 true true false)<|c3 (fa 0 5) (i 1)<|lf 3 5),(14,.node (.slA 3 1 true true false)<|c3 (fa 0 5) (i 1)<|lf 3 5)]^bk 0 (lo (k
 (b .lss 16 15) e (xt 0)^bk 1 (s [(6,ld<|ia 1 14 16)]^hh [(18,6),(17,2)] 19 (.call false) (c2 (fn 130)<|ln 2)^h 20 (.bSl [z] 1 [0]) (c1<|b .rem (ad 18
 19)<|i 256)^h 21 (.app 1 [z]) (c2 17 20)^s [(2,21)])^s [(16,ad 16<|i 1)])))^(s [(24,i 0),(23,ln<|.node (.sl 1 true true false)<|c3 (lf 0<|nk 0) 3 (ad
 3<|lf 4 5)),(22,.node (.sl 1 true true false)<|c3 (lf 0<|nk 0) 3<|ad 3<|lf 4 5)]^bk 2 (lo<|k (b .lss 24 23) e (xt 2)^bk 3 (s [(7,ld (ia 1 22
 24))]^hh [(26,n1 (.cvt .i64) 7),(25,2)] 27 (.call false) (c2 (fn 130)<|ln 2)^h 28 (.bSl [z] 1 [0]) (c1<|b .rem (ad 26 27)<|i 256)^h 29 (.app 1 [z]) (c2
 25 28)^s [(2,29)])^s [(24,ad 24<|i 1)]))^e^s [(4,lf 6 5),(3,lf 5 5)]^xt 1000000)<|.alt 2 (e^s [(4,lf 6 5),(3,lf 5 5)]^xt 1000000)<|kq .nil e)
def Qd:Stm:=
 (h 1 .box (c1 0)^s [(3,i 0),(2,i 0)])^s [(3,b .mul (b .quo (lf 1 1)<|ad (lf 3 1)<|i 2)<|lf 3 1),(2,b .mul (b .quo (lf 0 1)<|ad (lf 2 1)<|i 2) (lf 2
 1))]^r
def Qe:Stm:=
 s [(2,.cst u)]^(hh [(11,1),(10,0)] 12 (.bSl [z] 1 [0]) (c1<|i<|-1)^cl 13 131 (c2 12<|b .mul 0 1)^h 14 .box (c1<|.node (.build [z,z,u,z] [(0,1),(1,
 1),(2,1)])<|c3 10 11 13)^s [(3,14)])^s [(4,n1 (.mkF 132 1) 3)]^s [(6,i 0),(5,i 4)]^(s [(7,t)]^bk 0 (lo<|k 7 e (xt 0)^bk 1 (v (.call false) (c (fn
 133)<|c 3<|c3 5 6 4)^(s [(8,t)]^bk 2 (lo<|k 8 e (xt 2)^bk 3 ((cl 15 134 (c3 3 5 6)^kq 15 (v (.call false)<|c (fn 135)<|c 3<|c3 5 6 4))^s [(6,ad 6 (i
 2)),(5,b .sub 5<|i 2)])^s [(8,p (b .geq 5<|i 0) (b .lss 6 1) f)]))^s [(6,ad 6<|i 3),(5,ad 5<|i 1)]^(s [(9,t)]^bk 4 (lo<|k 9 e (xt 4)^bk 5 ((cl 16
 134 (c3 3 5 6)^kq 16 (v (.call false)<|c (fn 135)<|c 3<|c3 5 6 4))^s [(6,b .sub 6<|i 2),(5,ad 5<|i 2)])^s [(9,p (b .lss 5 0) (b .geq 6<|i 0)
 f)]))^s [(6,ad 6<|i 1),(5,ad 5<|i 3)])^s [(7,p (b .lss 5 0) t<|b .lss 6 1)]))^s [(2,lf 2<|nk 3)]^r
def Tr:CF:=⟨2,17,[(.var 2)],Qe,.plain⟩
def Qf:Stm:=
 (h 3 .box (c1 0)^h 4 (.alloc [.bool false,.bool false,z]) .nil)^s [(6,ad (lf 3 3)<|i 2),(5,ad (lf 2 3)<|i 2)]^s [(8,b .rem 2 6),(7,b .rem 1 5)]^bk 0
 (k (p (b .eql 8<|i 0) t<|b .eql 7<|b .sub 5<|i 1) (w 3 4 (n2 (.build [.bool false,.bool false,z] [(0,1),(1,1)]) t t)^r)<|k (b .eql 7<|i 0) (w 3 4
 (n2 (.build [.bool false,.bool false,z] [(0,1),(1,1)]) t<|b .eql (b .rem 8<|i 2)<|i 0)^r)<|kq (b .eql 8<|b .sub 6<|i 1)<|w 3 4 (n2 (.build [.bool
 false,.bool false,z] [(0,1),(1,1)]) t<|b .eql (b .rem 7<|i 2)<|i 1)^r)^(cl 10 77 (c1<|lt 7 3)^Stm.sets [(9,ix 1 10)] [ix 0 10])^w 3 4 (n1 (.build
 [.bool false,.bool false,z] [(2,1)])<|b .sub (ad (ad (b .mul (b .sub (ad (b .mul (b .quo 1 5)<|lf 2 3) 7)<|i 1) 9)<|b .mul (b .quo 2 6)<|lf 3 3) 8) (i
 1))^r
def Qg:Stm:=
 s [(3,f)]^s [(5,b .rem 2 1),(4,b .quo 2 1)]^s [(3,p (p (b .eql 4<|b .sub 0<|i 2) (b .eql 5<|b .sub 1<|i 2) f) t<|p (b .eql 4<|b .sub 0<|i 1) (b .eql
 5<|b .sub 1<|i 1) f)]^r
def Qh:Stm:=
 s [(1,f)]^(s [(2,i 0)]^bk 0 (lo (k (b .lss 2<|ln 0) e (xt 0)^bk 1 (kq (p (b .lss (ld<|ia 1 0 2)<|i 0) t<|b .gtr (ld<|ia 1 0 2)<|i 255)<|s [(1,f)]^r)^s
 [(2,ad 2<|i 1)])))^s [(1,t)]^r
def Qi:Stm:=
 (h 1 .box (c1 0)^s [(3,i 0),(2,i 0)])^s [(3,b .mul (b .quo (lf 1 1)<|ad (lf 3 1)<|i 2)<|lf 3 1),(2,b .mul (b .quo (lf 0 1)<|ad (lf 2 1)<|i 2) (lf 2
 1))]^r
def Qj:Stm:=
 s [(2,.cst u)]^(h 7 .box (c1<|n2 (.build [z,z,z,u] [(0,1),(1,1)]) 0 1)^s [(3,7)])^(s [(4,i 0)]^bk 0 (lo<|k (b .lss 4<|b .mul 0 1) e (xt 0)^bk 1 (hh
 [(9,lf 3<|nk 3),(8,3)] 10 (.bSl [z] 1 [0]) (c1<|i<|-1)^h 11 (.app 1 [z]) (c2 9 10)^w 1 (fa 3<|nk 8) 11)^s [(4,ad 4<|i 1)]))^s [(5,i 4)]^s [(6,i
 0)]^bk 2 (lo<|k (p (b .lss 5 0) t<|b .lss 6 1) e (xt 2)^bk 3 (v (.call false) (c (fn 136)<|c3 3 5 6)^v (.call false) (c (fn 137)<|c3 3 5 6)^s [(5,b .sub 5
 (i 2))]^s [(6,ad 6<|i 2)]^bk 4 (lo<|k (p (b .geq 5<|i 0) (b .lss 6 1) f) e (xt 4)^bk 5 (v (.call false) (c (fn 137)<|c3 3 5 6)^s [(5,b .sub 5<|i 2)]^s
 [(6,ad 6<|i 2)]))^s [(5,ad 5<|i 1)]^s [(6,ad 6<|i 3)]^v (.call false) (c (fn 137)<|c3 3 5 6)^s [(5,ad 5<|i 2)]^s [(6,b .sub 6<|i 2)]^bk 6 (lo (k
 (p (b .lss 5 0) (b .geq 6<|i 0) f) e (xt 6)^bk 7 (v (.call false) (c (fn 137)<|c3 3 5 6)^s [(5,ad 5<|i 2)]^s [(6,b .sub 6<|i 2)])))^s [(5,ad 5 (i
 3))]^s [(6,ad 6<|i 1)]))^s [(2,lf 3<|nk 3)]^r
def Qk:Stm:=
 (h 3 .box (c1 0)^s [(5,f),(4,f)])^s [(6,b .rem 1<|ad (lf 3 3)<|i 2)]^s [(7,b .rem 2<|ad (lf 2 3)<|i 2)]^kq (p (b .eql 6<|i 0) t<|b .eql 7 (ad (lf 2 3)
 (i 1))) (s [(5,t),(4,t)]^r)^kq (b .eql 7<|i 0) (s [(5,b .eql (b .rem 6<|i 2)<|i 0),(4,t)]^r)^s [(5,b .eql (b .rem 7<|i 2)<|i 1),(4,b .eql 6 (ad
 (lf 3 3)<|i 1))]^r
def Ql:Stm:=
 (h 3 .box (c1 0)^s [(4,i 0)])^(cl 8 82 (c1<|lt 7 3)^Stm.sets [(5,ix 1 8)] [ix 0 8])^s [(6,b .sub (ad (b .mul (b .quo 1<|ad (lf 3 3)<|i 2)<|lf 3 3) (b
 .rem 1<|ad (lf 3 3)<|i 2))<|i 1)]^s [(7,b .sub (ad (b .mul (b .quo 2<|ad (lf 2 3)<|i 2)<|lf 2 3)<|b .rem 2<|ad (lf 2 3)<|i 2)<|i 1)]^s [(4,ad (b
 .mul 7 5) 6)]^r
def TR:List Nat:=[0,1,2]
def TS:List Nat:=[0,1,4,5,7,8,16]
def TT:List Nat:=[0,1,2,3]
def TU:List Nat:=[0,1,4,5,13,17,21,22,34,38,47,48,51,55,59,63,67,71,75]
def Qm:Stm:=
 s [(1,.cst u)]^(h 7 (.bSl [z,z,z,z,.bool false] 1 [0]) (c1<|n1 (.build [z,z,z,z,.bool false] [(0,1)]) 0)^s [(2,7)])^(s [(3,i 1)]^bk 0 (lo<|k (b
 .leq 3<|i 2) e (xt 0)^bk 1 (s [(4,i 0)]^bk 2 (lo<|k (b .lss 4<|i 3) e (xt 2)^bk 3 (s [(5,i 0)]^bk 4 (lo<|k (b .lss 5<|i 4) e (xt 4)^bk 5 (hh [(8,2)] 9
 (.bSl [z,z,z,z,.bool false] 2 [0,1]) (c2 (.node (.build [z,z,z,z,.bool false] [(0,1),(1,1),(2,1),(3,1)])<|c 0<|c3 3 4 5)<|.node (.build [z,
 z,z,z,.bool false] [(0,1),(1,1),(2,1),(3,1),(4,1)])<|c 0<|c 3<|c3 4 5 t)^h 10 (.app 5 [z,z,z,z,.bool false]) (c2 8 9)^s [(2,10)])^s [(5,
 ad 5<|i 1)]))^s [(4,ad 4<|i 1)]))^s [(3,ad 3<|i 1)]))^(s [(6,i 0)]^bk 6 (lo<|k (b .lss 6<|i 4) e (xt 6)^bk 7 (kq (b .lss 6<|i 3) (hh [(11,2)] 12
 (.bSl [z,z,z,z,.bool false] 1 [0]) (c1<|.node (.build [z,z,z,z,.bool false] [(0,1),(1,1),(2,1)])<|c3 0 (i 3) 6)^h 13 (.app 5 [z,z,z,z,.bool
 false]) (c2 11 12)^s [(2,13)])^hh [(14,2)] 15 (.bSl [z,z,z,z,.bool false] 1 [0]) (c1 (.node (.build [z,z,z,z,.bool false] [(0,1),(1,1),(2,1)])
 (c3 0 (i 4) 6)))^h 16 (.app 5 [z,z,z,z,.bool false]) (c2 14 15)^s [(2,16)])^s [(6,ad 6<|i 1)]))^s [(1,2)]^r
def Qn:Stm:=
 (h 3 .box (c1 1)^s [(4,i 0)])^s [(5,i 1099511627776)]^kq (p (b .eql (lf 1 3)<|i 0) (b .eql (lf 0 3)<|ln 0) f) (s [(5,i 0)])^(cl 8 97 (c2 0<|lt 5 3)^s [(6,
 8)])^(s [(7,i 0)]^bk 0 (lo<|k (b .lss 7<|ln 6) e (xt 0)^bk 1 (hh [(12,fa 0<|ia 128 2<|lf 0<|fa 4<|ia 9 6 7),(10,lf 3<|ia 9 6 7),(9,5)] 11 (.call
 true) (c2 (fn 96)<|lt 5<|fa 4<|ia 9 6 7)^s [(5,n2 (.minmax false) 9<|ad 10<|ld<|n2 (.iAddrA 128 1) 12 11)])^s [(7,ad 7<|i 1)]))^s [(4,5)]^r
def Qo:Stm:=
 (h 1 .box (c1 0)^s [(2,i 0)])^s [(3,ad (lf 2 1)<|b .mul (i 4)<|lf 3 1)]^kq (lf 4 1) (s [(3,ad 3<|i 16)])^kq (p (b .eql (lf 1 1)<|i 3) t (b .eql (lf 1 1)
 (i 4))) (s [(2,ad (ad (i 100)<|b .mul (i 10)<|b .sub (lf 1 1)<|i 3)<|lf 2 1)]^r)^s [(2,ad (b .mul (lf 1 1)<|i 32) 3)]^r
def Qp:Stm:=
 (h 2 .box (c1 1)^s [(3,.cst u)])^kq (b .eql (lf 1 2)<|i 0) ((cl 6 146 (c2 0<|lf 0 2)^s [(3,6)])^r)^kq (b .neq (lf 1 2)<|i 4) ((cl 7 147 (c2 0<|lt 5 2)^s
 [(3,7)])^r)^s [(4,i 1)]^kq (b .eql (lf 2 2)<|i 3) (s [(4,i 0)])^(h 8 (.bSl [z,z,z,z,z,z,z,z,.bool false] 1 [0]) (c1<|.node (.build [z,z,z,z,z,
 z,z,z,.bool false] [(0,1),(1,1),(2,1),(3,1),(4,5)])<|c (i 31)<|c (i<|-1)<|c3 (i<|-1) 4<|n1 (.build [z,z,z,z,.bool false] [(0,1)]) (lf 0
 2))^s [(5,8)])^kq (p (p (b .lss (lf 0 2)<|ln 0) (b .geq (ld<|ia 1 0<|lf 0 2)<|.cst<|.int .u8 32) f) (b .leq (ld<|ia 1 0<|lf 0 2)<|.cst (.int .u8
 94)) f) (hh [(9,5)] 10 (.bSl [z,z,z,z,z,z,z,z,.bool false] 1 [0]) (c1<|.node (.build [z,z,z,z,z,z,z,z,.bool false] [(0,1),(1,1),(2,1),
 (3,1),(4,5)])<|c (b .rem (n1 (.cvt .i64)<|ld<|ia 1 0<|lf 0 2)<|i 64)<|c (i<|-1)<|c3 (i<|-1) 4<|.node (.build [z,z,z,z,.bool false] [(0,1),(1,
 1),(2,1)])<|c3 (ad (lf 0 2)<|i 1) (i 4)<|b .rem (ad (lf 2 2)<|i 1)<|i 4)^h 11 (.app 9 [z,z,z,z,z,z,z,z,.bool false]) (c2 9 10)^s [(5,
 11)])^s [(3,5)]^r
def Qq:Stm:=
 (h 2 .box (c1 0)^h 3 .box (c1 1)^s [(4,f)])^kq (b .neq (lf 0 2)<|lf 0 3) (s [(4,b .lss (lf 0 2)<|lf 0 3)]^r)^kq (b .neq (lf 1 2)<|lf 1 3) (s [(4,b .lss
 (lf 1 2)<|lf 1 3)]^r)^s [(4,b .lss (lf 2 2)<|lf 2 3)]^r
def NA:Stm:=
 (h 2 .box (c1 1)^s [(3,i 0)])^(s [(6,i 0),(5,ln 0)]^bk 0 (lo<|k (b .lss 6 5) e (xt 0)^bk 1 (s [(4,6)]^kq (n2 (.eqA false [1,1,1,1,1,1,1]) (lt 7 2)
 (lt 7<|ia 7 0 4)) (s [(3,4)]^r))^s [(6,ad 6<|i 1)]))^s [(3,i<|-1)]^r
def Kc:Stm:=
 (h 1 .box (c1 0)^s [(2,f)])^kq (b .eql (lf 2 1)<|i 0) ((Stm.hv [(3,p (p (b .gtr (lf 1 1)<|i 2) (b .leq (lf 1 1)<|i 4096) f) (n2 (.eqA false [1,1,1]) (lt
 3 1)<|n2 (.build [z,z,z] [(0,1),(1,1)]) (lf 1 1)<|lf 1 1) f)] [] [(p (p (b .gtr (lf 1 1)<|i 2) (b .leq (lf 1 1)<|i 4096) f) (n2 (.eqA false [1,1,
 1]) (lt 3 1)<|n2 (.build [z,z,z] [(0,1),(1,1)]) (lf 1 1)<|lf 1 1) f,true)] (some 4) (.call false) (c2 (fn 148)<|lf 1 1)^s [(2,p 3 4 f)])^r)^(Stm.hv
 [(5,b .lss (lf 2 1)<|i 2)] [] [(b .lss (lf 2 1)<|i 2,false)] (some 6) (.call false) (c2 (fn 149)<|lf 2 1)^kq (p 5 t<|b .gtr 6<|i 12) (s [(2,
 f)]^r))^(hh [(9,lf 2 1),(7,lt 3 1)] 8 (.call true) (c2 (fn 149)<|lf 2 1)^Stm.hv [(10,n2 (.eqA false [1,1,1]) 7<|.node (.build [z,z,z] [(0,1),(1,
 1),(2,1)])<|c3 (i 2) (b .shl (i 1) 8) 9)] [] [(n2 (.eqA false [1,1,1]) 7<|.node (.build [z,z,z] [(0,1),(1,1),(2,1)]) (c3 (i 2) (b .shl (i 1) 8)
 9),true)] (some 11) .callC (c2 (fn 150)<|lf 2 1)^s [(2,p 10 11 f)])^r
def Kd:Stm:=
 (h 3 .box (c1 0)^s [(4,f)])^s [(4,p (p (p (b .geq 1<|i 1) (b .leq 1<|b .sub (lf 1 3)<|i 2) f) (b .geq 2<|i 0) f) (b .leq 2<|b .sub (lf 1 3)<|i 2) f)]^r
def Ke:Stm:=
 (h 2 .box (c1 0)^s [(3,f)])^(s [(7,i 0),(6,ln 1),(5,1)]^bk 0 (lo<|k (b .lss 7 6) e (xt 0)^bk 1 (s [(4,ld<|ia 1 5 7)]^kq (p (b .lss 4<|i 0) t (b .geq 4
 (lf 1 2))) (s [(3,f)]^r))^s [(7,ad 7<|i 1)]))^s [(3,t)]^r
def Kf:Stm:=
 (h 2 .box (c1 0)^s [(3,i 0)])^s [(3,ld<|ia 1 (lf 2 2)<|b .rem 1<|b .sub (lf 1 2)<|i 1)]^r
def Kg:Stm:=
 (h 2 .box (c1 0)^s [(4,i 0),(3,.cst u)])^(cl 8 105 (c2 (lt 3 2)<|.cst u)^Stm.hv [(9,n1 (.un .not) 8)] [] [(n1 (.un .not) 8,false)] (some 10) (.call false)
 (c3 (fn 151) (lt 3 2) 1)^kq (p 9 t<|n1 (.un .not) 10) (s [(4,i 1),(3,.cst u)]^r))^kq (b .gtr (ln 1)<|i 4096) (s [(4,i 4),(3,.cst u)]^r)^(cl 11 106 (c1
 (lt 3 2))^h 5 (.alloc [z,z,u,u]) .nil^w 4 5 11)^(h 12 (.bSl [z] 1 [0]) (c1<|i 1)^s [(6,12)])^(s [(15,i 0),(14,ln 1),(13,1)]^bk 0 (lo<|k (b .lss 15
 14) e (xt 0)^bk 1 (s [(7,ld<|ia 1 13 15)]^cl 16 152 (c (lt 4 5)<|c3 6 7<|i 0)^s [(6,16)])^s [(15,ad 15<|i 1)]))^s [(4,i 0),(3,6)]^r
def EF:Stm:=
 (h 2 .box (c1 0)^s [(3,f)])^(cl 6 100 (c1<|lt 3 2)^kq (n1 (.un .not) 6) (s [(3,f)]^r))^(s [(9,i 0),(8,ln 1),(7,1)]^bk 0 (lo (k (b .lss 9 8) e (xt 0)^bk
 1 (s [(4,ld<|ia 1 7 9)]^s [(5,ln 4)]^Stm.hv [(10,p (b .gtr 5<|i 4097) t<|p (b .gtr 5<|i 0) (b .eql (ld<|ia 1 4<|b .sub 5<|i 1)<|i 0) f)] [] [(p (b
 .gtr 5<|i 4097) t<|p (b .gtr 5<|i 0) (b .eql (ld<|ia 1 4<|b .sub 5<|i 1)<|i 0) f,false)] (some 11) (.call false) (c3 (fn 151) (lt 3 2) 4)^kq (p 10 t
 (n1 (.un .not) 11)) (s [(3,f)]^r))^s [(9,ad 9<|i 1)])))^s [(3,t)]^r
def Kh:Stm:=
 (h 1 .box (c1 0)^h 2 (.alloc [z,z,u,u]) .nil)^(cl 7 114 (c1<|lt 3 1)^Stm.sets [(3,ix 0 7)] [ix 1 7])^(hh [(11,lf 1 1),(9,lf 1 1),(8,lf 0 1)] 10 (.mkSl
 [z]) (c2 (b .sub (lf 1 1)<|i 1)<|b .sub (lf 1 1)<|i 1)^h 12 (.mkSl [z]) (c2 11 11)^hh [(13,.node (.build [z,z,u,u] [(0,1),(1,1),(2,1),(3,1)]) (c
 8<|c3 9 10 12))] 4 (.alloc [z,z,u,u]) .nil^w 4 4 13)^s [(5,i 1)]^(s [(15,i 0),(14,ln<|lf 2 4)]^bk 0 (lo<|k (b .lss 15 14) e (xt 0)^bk 1 (s [(6,
 15)]^(Stm.hv [(20,ia 1 (lf 2 4) 6),(19,6),(18,5),(17,lf 3 4),(16,fa 3 4)] [] [] none (.st 1) (c2 (ia 1 (lf 2 4) 6) 5)^w 1 (ia 1 17 18) 19^Stm.dist 20
 16)^cl 21 115 (c3 (lt 3 1) 5 3)^Stm.sets [(5,ix 0 21)] [ix 1 21])^s [(15,ad 15<|i 1)]))^w 4 2 (lt 4 4)^r
def Ki:Stm:=
 (h 3 .box (c1 0)^s [(5,.cst u),(4,.cst u)])^(h 11 (.app 1 [z]) (c2 (.cst u) 1)^s [(5,11)])^s [(6,b .sub (ln 2)<|i 1)]^kq (b .gtr (ln 1) 6) (h 12 (.mkSl
 [z]) (c2 (b .sub (ln 1) 6)<|b .sub (ln 1) 6)^s [(4,12)])^(s [(7,b .sub (ln 4)<|i 1)]^bk 0 (lo<|k (b .geq 7<|i 0) e (xt 0)^bk 1 ((h 13 .callC (c (fn 153)
 (c3 (lt 4 3) (ld<|ia 1 5<|ad 7 6)<|ld<|ia 1 2 6))^s [(8,13)])^w 1 (ia 1 4 7) 8^s [(16,i 0),(15,ln 2),(14,2)]^bk 2 (lo (k (b .lss 16 15) e (xt 2)^bk
 3 (s [(10,ld<|ia 1 14 16),(9,16)]^hh [(20,ld<|ia 1 5<|ad 7 9),(19,lt 4 3),(18,ad 7 9),(17,5)] 21 (.call true) (c (fn 155)<|c3 (lt 4 3) 8 10)^h
 22 .callC (c (fn 154)<|c3 19 20 21)^w 1 (ia 1 17 18) 22)^s [(16,ad 16<|i 1)])))^s [(7,b .sub 7<|i 1)]))^(hh [(23,4)] 24 (.call false) (c2 (fn 62) 5)^s
 [(5,24),(4,23)])^r
def Kj:Stm:=
 (h 2 .box (c1 0)^s [(3,f)])^(cl 5 100 (c1<|lt 3 2)^kq (n1 (.un .not) 5) (s [(3,f)]^r))^(s [(8,i 0),(7,ln 1),(6,1)]^bk 0 (lo (k (b .lss 8 7) e (xt 0)^bk
 1 (s [(4,ld<|ia 1 6 8)]^kq (p (b .lss 4<|i 0) t<|b .geq 4<|lf 1 2) (s [(3,f)]^r))^s [(8,ad 8<|i 1)])))^s [(3,t)]^r
def Kk:Stm:=
 (h 1 .box (c1 0)^s [(2,f)])^kq (b .eql (lf 0 1)<|i 2) ((cl 4 156 (c1<|lf 1 1)^s [(3,4)])^(Stm.hv [(5,p (p (p (b .geq 3<|i 1) (b .leq 3<|i 12) f) (b .eql
 (lf 1 1)<|b .shl (i 1)<|n1 (.cvt .u64) 3) f) (b .lss (lf 2 1)<|b .shl (i 1)<|n1 (.cvt .u64)<|ad 3<|i 1) f)] [] [(p (p (p (b .geq 3<|i 1) (b .leq 3 (i
 12)) f) (b .eql (lf 1 1)<|b .shl (i 1)<|n1 (.cvt .u64) 3) f) (b .lss (lf 2 1)<|b .shl (i 1)<|n1 (.cvt .u64)<|ad 3<|i 1) f,true)] (some 6) (.call false)
 (c3 (fn 157) (lf 2 1) 3)^s [(2,p 5 6 f)])^r)^(Stm.hv [(7,p (p (p (b .eql (lf 0 1)<|lf 1 1) (b .eql (lf 2 1)<|i 0) f) (b .geq (lf 1 1)<|i 3) f) (b .leq
 (lf 1 1)<|i 4096) f)] [] [(p (p (p (b .eql (lf 0 1)<|lf 1 1) (b .eql (lf 2 1)<|i 0) f) (b .geq (lf 1 1)<|i 3) f) (b .leq (lf 1 1)<|i 4096) f,true)]
 (some 8) (.call false) (c2 (fn 158)<|lf 1 1)^s [(2,p 7 8 f)])^r
def Kl:Stm:=
 (h 2 .box (c1 0)^s [(3,f)])^s [(3,p (b .geq 1<|i 0) (b .lss 1<|lf 1 2) f)]^r
def Km:Stm:=
 (h 1 .box (c1 0)^s [(2,.cst u)])^(cl 7 159 (c1<|lt 3<|fa 0 1)^s [(3,7)])^s [(4,.cst u)]^(cl 8 160 (c3 (lt 3<|fa 0 1) 3<|lf 4 1)^s [(5,8)])^(s [(6,i
 0)]^bk 0 (lo<|k (b .lss 6<|lf 3 1) e (xt 0)^bk 1 ((hh [(9,4)] 10 (.bSl [z] 1 [0]) (c1 5)^h 11 (.app 1 [z]) (c2 9 10)^s [(4,11)])^cl 12 69 (c3 (lt 3 (fa 0
 1)) 5 3)^s [(5,12)])^s [(6,ad 6<|i 1)]))^s [(2,4)]^r
def Kn:Stm:=
 (h 4 .box (c1 0)^s [(5,.cst u)])^(h 9 (.mkSl [z]) (c2 (n2 (.minmax false) 3<|n2 (.minmax true) (i 0)<|b .sub (ad (ln 1)<|ln 2)<|i 1) (n2 (.minmax false) 3
 (n2 (.minmax true) (i 0)<|b .sub (ad (ln 1)<|ln 2)<|i 1)))^s [(6,9)])^(s [(7,i 0)]^bk 0 (lo<|k (b .lss 7<|ln 1) e (xt 0)^bk 1 (s [(8,i 0)]^bk 2 (lo (k
 (p (b .lss 8<|ln 2) (b .lss (ad 7 8)<|ln 6) f) e (xt 2)^bk 3 (hh [(13,ld<|ia 1 6<|ad 7 8),(12,lt 3 4),(11,ad 7 8),(10,6)] 14 (.call true) (c (fn
 69)<|c3 (lt 3 4) (ld<|ia 1 1 7)<|ld<|ia 1 2 8)^h 15 .callC (c (fn 67)<|c3 12 13 14)^w 1 (ia 1 10 11) 15)^s [(8,ad 8<|i 1)])))^s [(7,ad 7<|i 1)]))^s
 [(5,6)]^r
def Ko:Stm:=
 s [(2,i 0)]^(cl 5 156 (c1 1)^s [(3,5)])^((cl 6 156 (c1 0)^s [(4,6)])^bk 0 (lo<|k (b .geq 4 3) e (xt 0)^bk 1 (kq (b .eql (b .and (b .shr 0<|n1 (.cvt .u64) 4)
 (i 1))<|i 1)<|s [(0,b .xor 0<|b .shl 1<|n1 (.cvt .u64)<|b .sub 4 3)])^s [(4,b .sub 4<|i 1)]))^s [(2,0)]^r
def Kp:Stm:=
 (h 1 .box (c1 0)^s [(3,i 0),(2,i 0)])^(cl 4 108 (c2 (lt 3 1)<|.cst u)^kq (n1 (.un .not) 4) (s [(3,i 1),(2,i 0)]^r))^(cl 5 161 (c1<|lt 3 1)^s [(3,i 0),
 (2,5)])^r
def Kq:Stm:=
 (h 3 .box (c1 0)^s [(5,i 0),(4,i 0)])^(hh [(6,lt 3 3)] 7 (.bSl [z] 2 [0,1]) (c2 1 2)^cl 8 108 (c2 6 7)^kq (n1 (.un .not) 8) (s [(5,i 1),(4,i 0)]^r))^(cl
 9 162 (c3 (lt 3 3) 1 2)^s [(5,i 0),(4,9)])^r
def MK:List Nat:=[0,2,3,16]
def ML:List Nat:=[0,2,3,4,5,6,12,13,14,20,24,28,32,36,39,40,41]
def MM:List Nat:=[0,2,3,21,22,33]
def MN:List Nat:=[0,2,3,4,5,6,10,11,12,20,26,29,31,34,44,49,53,55,56,60,64,66,67]
def MO:List Nat:=[0,2,3,4,5,7,8,9,10,35,50,56,60,61,62,69,75,78,80,84,87,99,101,105,106,113,114,120,121,125,132,136,143,144,145,146]
def MP:List Nat:=[0,2,4,17,18,19]
def Kr:Stm:=
 h 2 (.alloc [u,u,u,u,u,u,u,u,u,u,u,u,u,u,u,u,u,u,u]) .nil^(s [(9,i 0)]^bk 0 (lo<|k (b .lss 9<|i 19) e (xt 0)^bk 1 (s [(3,9)]^hh [(10,3)]
 11 (.call false) (c (fn 176)<|c3 0 1 3)^w 1 (n2 (.iAddrA 19 1) 2 10) 11)^s [(9,ad 9<|i 1)]))^s [(4,t)]^bk 2 (lo<|k 4 e (xt 2)^bk 3 (s [(4,f)]^s [(13,i
 0),(12,lt 19 2)]^bk 4 (lo<|k (b .lss 13<|i 19) e (xt 4)^bk 5 (s [(6,n2 (.idx 19 1 false) 12 13),(5,13)]^s [(16,i 0),(15,ln 6),(14,6)]^bk 6 (lo (k
 (b .lss 16 15) e (xt 6)^bk 7 ((hh [(17,lt 7<|ia 7 14 16)] 7 (.alloc [z,z,z,z,z,z,z]) .nil^w 7 7 17)^(cl 18 177 (c2 0<|lt 7 7)^s [(8,18)])^kq (b .lss
 8<|ld<|n2 (.iAddrA 19 1) (ia 19 (lf 1<|nk 0) 1) 5) (w 1 (n2 (.iAddrA 19 1) (ia 19 (lf 1<|nk 0) 1) 5) 8^s [(4,t)]))^s [(16,ad 16<|i 1)])))^s [(13,ad 13
 (i 1))])))
def Ks:Stm:=
 h 3 (.alloc [z,z,z,z,z,z,z]) .nil^h 4 (.alloc [z,z,z,z,z,z,z]) .nil^((cl 6 176 (c3 0 1 2)^s [(8,i 0),(7,ln 6)])^bk 0 (lo (k (b .lss 8 7) e (xt
 0)^bk 1 ((hh [(9,lt 7<|ia 7 6 8)] 5 (.alloc [z,z,z,z,z,z,z]) .nil^w 7 5 9)^(hh [(11,ld<|n2 (.iAddrA 19 1) (ia 19 (lf 1<|nk 0) 1) 2)] 10 (.call
 true) (c3 (fn 177) 0<|lt 7 5)^kq (b .neq 10 11) (xt 1))^Stm.hv [(12,b .eql (lf 3 4)<|i 0)] [] [(b .eql (lf 3 4)<|i 0,false)] (some 13) .callC (c3 (fn
 178) (n2 (.slA 3 1 false true false) (fa 0 5)<|lf 3 5)<|n2 (.slA 3 1 false true false) (fa 0 4)<|lf 3 4)^kq (p 12 t<|b .lss 13<|i 0) (w 7 4<|lt 7 5))^s
 [(8,ad 8<|i 1)])))^w 7 3 (lt 7 4)^r
def Kt:Stm:=
 s [(1,i 0)]^s [(1,ad (b .rem (b .mul (i 149)<|ad 0<|i 1)<|i 255)<|i 1)]^r
def Ku:Stm:=
 s [(2,.cst u)]^kq (b .lss 1<|i 0) (v .pan<|c1<|n1 (.mkI 9)<|.cst<|.string ⟨ #[99,97,110,110,111,116,32,98,101,32,110,101,103,97,116,105,118,
 101] ⟩)^(cl 7 179 (c2 (n1 (.cvt .u64)<|ln 0)<|n1 (.cvt .u64) 1)^s [(4,ix 1 7),(3,ix 0 7)])^kq (p (b .gtr 3<|.cst<|.int .u64 0) t<|b .gtr 4 (.cst
 (.int .u64 9223372036854775807))) (v .pan<|c1<|n1 (.mkI 9)<|.cst<|.string U0)^(h 8 (.mkSl [z]) (c2 (n1 (.cvt .i64) 4)<|n1 (.cvt .i64) 4)^s [(5,
 8)])^(h 9 (.cpy 1) (c2 5 0)^s [(6,9)])^bk 0 (lo<|k (b .lss 6<|ln 5) e (xt 0)^bk 1 (hh [(10,6)] 11 (.cpy 1) (c2 (n2 (.sl 1 true false false) 5 6)<|n2 (.sl 1
 false true false) 5 6)^s [(6,ad 10 11)]))^s [(2,5)]^r
def Qy:CF:=⟨2,12,[(.var 2)],Ku,.plain⟩
def Kv:Stm:=
 kq (b .lss 1<|i 0) (s [(1,ad 1<|lf 0<|nk 0)]^s [(2,ad 2<|b .sub (i 4)<|b .rem (ad (lf 0<|nk 0)<|i 4)<|i 8)])^kq (b .lss 2<|i 0) (s [(2,ad 2 (lf 1
 (nk 0)))]^s [(1,ad 1<|b .sub (i 4)<|b .rem (ad (lf 1<|nk 0)<|i 4)<|i 8)])^w 1 (ia 1 (lf 2<|nk 0)<|ad (b .mul 1<|lf 1<|nk 0) 2) (ad (b .mul (i 8) (lf
 3<|nk 0)) 3)
def Kw:Stm:=
 s [(5,lf 1<|nk 0),(4,lf 0<|nk 0)]^kq (p (b .eql 1 4) (b .eql 2<|i 0) f) (v (.call false)<|c (fn 180)<|c3 0 (.node (.build [z,z,z,z,z,z,z,z,z,z,
 z,z,z,z,z,z] [(0,2),(2,2),(4,2),(6,2),(8,2),(10,2),(12,2),(14,2)])<|c (n2 (.build [z,z] [(0,1),(1,1)]) (b .sub 4<|i 1)<|i 0)<|c (n2
 (.build [z,z] [(0,1),(1,1)]) (b .sub 4<|i 1)<|i 1)<|c (n2 (.build [z,z] [(0,1),(1,1)]) (b .sub 4<|i 1)<|i 2)<|c (n2 (.build [z,z] [(0,1),(1,
 1)]) (i 0)<|b .sub 5<|i 2)<|c (n2 (.build [z,z] [(0,1),(1,1)]) (i 0)<|b .sub 5<|i 1) (c3 (n2 (.build [z,z] [(0,1),(1,1)]) (i 1)<|b .sub 5<|i 1)
 (n2 (.build [z,z] [(0,1),(1,1)]) (i 2)<|b .sub 5<|i 1)<|n2 (.build [z,z] [(0,1),(1,1)]) (i 3)<|b .sub 5<|i 1)) 3)^kq (p (p (b .eql 1 (b
 .sub 4<|i 2)) (b .eql 2<|i 0) f) (b .neq (b .rem 5<|i 4)<|i 0) f) (v (.call false)<|c (fn 180)<|c3 0 (.node (.build [z,z,z,z,z,z,z,z,z,z,z,z,
 z,z,z,z] [(0,2),(2,2),(4,2),(6,2),(8,2),(10,2),(12,2),(14,2)])<|c (n2 (.build [z,z] [(0,1),(1,1)]) (b .sub 4<|i 3)<|i 0)<|c (n2
 (.build [z,z] [(0,1),(1,1)]) (b .sub 4<|i 2)<|i 0)<|c (n2 (.build [z,z] [(0,1),(1,1)]) (b .sub 4<|i 1)<|i 0)<|c (n2 (.build [z,z] [(0,1),(1,
 1)]) (i 0)<|b .sub 5<|i 4)<|c (n2 (.build [z,z] [(0,1),(1,1)]) (i 0)<|b .sub 5<|i 3) (c3 (n2 (.build [z,z] [(0,1),(1,1)]) (i 0)<|b .sub 5<|i 2)
 (n2 (.build [z,z] [(0,1),(1,1)]) (i 0)<|b .sub 5<|i 1)<|n2 (.build [z,z] [(0,1),(1,1)]) (i 1)<|b .sub 5<|i 1)) 3)^kq (p (p (b .eql 1 (b
 .sub 4<|i 2)) (b .eql 2<|i 0) f) (b .eql (b .rem 5<|i 8)<|i 4) f) (v (.call false)<|c (fn 180)<|c3 0 (.node (.build [z,z,z,z,z,z,z,z,z,z,z,z,
 z,z,z,z] [(0,2),(2,2),(4,2),(6,2),(8,2),(10,2),(12,2),(14,2)])<|c (n2 (.build [z,z] [(0,1),(1,1)]) (b .sub 4<|i 3)<|i 0)<|c (n2
 (.build [z,z] [(0,1),(1,1)]) (b .sub 4<|i 2)<|i 0)<|c (n2 (.build [z,z] [(0,1),(1,1)]) (b .sub 4<|i 1)<|i 0)<|c (n2 (.build [z,z] [(0,1),(1,
 1)]) (i 0)<|b .sub 5<|i 2)<|c (n2 (.build [z,z] [(0,1),(1,1)]) (i 0)<|b .sub 5<|i 1) (c3 (n2 (.build [z,z] [(0,1),(1,1)]) (i 1)<|b .sub 5<|i 1)
 (n2 (.build [z,z] [(0,1),(1,1)]) (i 2)<|b .sub 5<|i 1)<|n2 (.build [z,z] [(0,1),(1,1)]) (i 3)<|b .sub 5<|i 1)) 3)^kq (p (p (b .eql 1 (ad 4
 (i 4))) (b .eql 2<|i 2) f) (b .eql (b .rem 5<|i 8)<|i 0) f) (v (.call false)<|c (fn 180)<|c3 0 (.node (.build [z,z,z,z,z,z,z,z,z,z,z,z,z,z,z,
 z] [(0,2),(2,2),(4,2),(6,2),(8,2),(10,2),(12,2),(14,2)])<|c (n2 (.build [z,z] [(0,1),(1,1)]) (b .sub 4<|i 1)<|i 0)<|c (n2 (.build [z,z]
 [(0,1),(1,1)]) (b .sub 4<|i 1)<|b .sub 5<|i 1)<|c (n2 (.build [z,z] [(0,1),(1,1)]) (i 0)<|b .sub 5<|i 3)<|c (n2 (.build [z,z] [(0,1),(1,1)])
 (i 0)<|b .sub 5<|i 2)<|c (n2 (.build [z,z] [(0,1),(1,1)]) (i 0)<|b .sub 5<|i 1)<|c3 (n2 (.build [z,z] [(0,1),(1,1)]) (i 1)<|b .sub 5<|i 3) (n2
 (.build [z,z] [(0,1),(1,1)]) (i 1)<|b .sub 5<|i 2)<|n2 (.build [z,z] [(0,1),(1,1)]) (i 1)<|b .sub 5<|i 1) 3)
def Kx:Stm:=
 s [(3,f)]^s [(3,p (p (p (p (b .geq 1<|i 0) (b .lss 1<|lf 0<|nk 0) f) (b .geq 2<|i 0) f) (b .lss 2<|lf 1<|nk 0) f) (b .lss (ld<|ia 1 (lf 2<|nk 0)<|ad (b
 .mul 1<|lf 1<|nk 0) 2)<|i 0) f)]^r
def Ky:Stm:=
 v (.call false)<|c (fn 180)<|c3 0 (.node (.build [z,z,z,z,z,z,z,z,z,z,z,z,z,z,z,z] [(0,2),(2,2),(4,2),(6,2),(8,2),(10,2),(12,2),
 (14,2)])<|c (n2 (.build [z,z] [(0,1),(1,1)]) (b .sub 1<|i 2)<|b .sub 2<|i 2)<|c (n2 (.build [z,z] [(0,1),(1,1)]) (b .sub 1<|i 2)<|b .sub 2 (i
 1))<|c (n2 (.build [z,z] [(0,1),(1,1)]) (b .sub 1<|i 1)<|b .sub 2<|i 2)<|c (n2 (.build [z,z] [(0,1),(1,1)]) (b .sub 1<|i 1)<|b .sub 2<|i 1) (c
 (n2 (.build [z,z] [(0,1),(1,1)]) (b .sub 1<|i 1) 2)<|c3 (n2 (.build [z,z] [(0,1),(1,1)]) 1<|b .sub 2<|i 2) (n2 (.build [z,z] [(0,1),(1,1)]) 1
 (b .sub 2<|i 1))<|n2 (.build [z,z] [(0,1),(1,1)]) 1 2)) 3
def Kz:Stm:=
 s [(3,lf 0<|nk 0)]^s [(4,lf 1<|nk 0)]^kq (p (b .eql 1 3) (b .eql 2<|i 0) f) (v (.call false)<|c3 (fn 181) 0<|.node (.build [z,z,z,z,z,z,z,z,z,z,
 z,z,z,z,z,z] [(0,1),(1,1),(2,1),(3,1),(4,1),(5,1),(6,1),(7,1),(8,1),(9,1),(10,1),(11,1),(12,1),(13,1),(14,1),(15,1)]) (c
 (b .sub 3<|i 1)<|c (i 0)<|c (b .sub 3<|i 1)<|c (i 1)<|c (b .sub 3<|i 1)<|c (i 2)<|c (i 0)<|c (b .sub 4<|i 2)<|c (i 0)<|c (b .sub 4<|i 1)<|c (i 1)<|c (b
 .sub 4<|i 1)<|c (i 2)<|c3 (b .sub 4<|i 1) (i 3)<|b .sub 4<|i 1))^kq (p (p (b .eql 1<|b .sub 3<|i 2) (b .eql 2<|i 0) f) (b .neq (b .rem 4
 (i 4))<|i 0) f) (v (.call false)<|c3 (fn 181) 0<|.node (.build [z,z,z,z,z,z,z,z,z,z,z,z,z,z,z,z] [(0,1),(1,1),(2,1),(3,1),(4,1),(5,
 1),(6,1),(7,1),(8,1),(9,1),(10,1),(11,1),(12,1),(13,1),(14,1),(15,1)])<|c (b .sub 3<|i 3)<|c (i 0)<|c (b .sub 3<|i 2)<|c (i 0)<|c (b
 .sub 3<|i 1)<|c (i 0)<|c (i 0)<|c (b .sub 4<|i 4)<|c (i 0)<|c (b .sub 4<|i 3)<|c (i 0)<|c (b .sub 4<|i 2)<|c (i 0)<|c3 (b .sub 4<|i 1) (i 1)<|b .sub 4 (i
 1))^kq (p (p (b .eql 1<|b .sub 3<|i 2) (b .eql 2<|i 0) f) (b .eql (b .rem 4<|i 8)<|i 4) f) (v (.call false)<|c3 (fn 181) 0 (.node
 (.build [z,z,z,z,z,z,z,z,z,z,z,z,z,z,z,z] [(0,1),(1,1),(2,1),(3,1),(4,1),(5,1),(6,1),(7,1),(8,1),(9,1),(10,1),(11,1),
 (12,1),(13,1),(14,1),(15,1)])<|c (b .sub 3<|i 3)<|c (i 0)<|c (b .sub 3<|i 2)<|c (i 0)<|c (b .sub 3<|i 1)<|c (i 0)<|c (i 0)<|c (b .sub 4<|i 2)<|c (i
 0)<|c (b .sub 4<|i 1)<|c (i 1)<|c (b .sub 4<|i 1)<|c (i 2)<|c3 (b .sub 4<|i 1) (i 3)<|b .sub 4<|i 1))^kq (p (p (b .eql 1<|ad 3<|i 4) (b
 .eql 2<|i 2) f) (b .eql (b .rem 4<|i 8)<|i 0) f) (v (.call false)<|c3 (fn 181) 0<|.node (.build [z,z,z,z,z,z,z,z,z,z,z,z,z,z,z,z] [(0,1),
 (1,1),(2,1),(3,1),(4,1),(5,1),(6,1),(7,1),(8,1),(9,1),(10,1),(11,1),(12,1),(13,1),(14,1),(15,1)])<|c (b .sub 3<|i 1)<|c (i 0) (c
 (b .sub 3<|i 1)<|c (b .sub 4<|i 1)<|c (i 0)<|c (b .sub 4<|i 3)<|c (i 0)<|c (b .sub 4<|i 2)<|c (i 0)<|c (b .sub 4<|i 1)<|c (i 1)<|c (b .sub 4<|i 3)<|c (i
 1)<|c3 (b .sub 4<|i 2) (i 1)<|b .sub 4<|i 1))
def LA:Stm:=
 kq (p (p (p (p (b .lss 1<|i 0) t<|b .geq 1<|lf 0<|nk 0) t<|b .lss 2<|i 0) t<|b .geq 2<|lf 1<|nk 0) t<|b .geq (ld<|ia 1 (lf 3<|nk 0)<|ad (b .mul 1 (lf
 1<|nk 0)) 2)<|i 0) r^v (.call false) (c3 (fn 181) 0<|.node (.build [z,z,z,z,z,z,z,z,z,z,z,z,z,z,z,z] [(0,1),(1,1),(2,1),(3,1),(4,
 1),(5,1),(6,1),(7,1),(8,1),(9,1),(10,1),(11,1),(12,1),(13,1),(14,1),(15,1)])<|c (b .sub 1<|i 2)<|c (b .sub 2<|i 2) (c (b .sub 1<|i 2)
 (c (b .sub 2<|i 1)<|c (b .sub 1<|i 1)<|c (b .sub 2<|i 2)<|c (b .sub 1<|i 1)<|c (b .sub 2<|i 1)<|c (b .sub 1<|i 1)<|c 2<|c 1<|c (b .sub 2<|i 2)<|c 1 (c3
 (b .sub 2<|i 1) 1 2))))
def MQ:List Nat:=[0,2,3,37,41,45,46]
def MR:List Nat:=[0,1,4,5,6,7,8,9,11,12,13,16,17,18,19,26,27,52,60,64,66,67]
def MS:List Nat:=[0,2,3,4,5,6,7,8,11,22,34,35,39,44,48,51,52]
def MT:List Nat:=[0,2,3,4,5,7,10,11,12,13,20,21,24,28,30,31,32]
def MU:List Nat:=[0,2,3,4,5,6,7,8,87,91,94,95]
def MV:List Nat:=[0,2,5,10]
def LB:Stm:=
 s [(2,.cst u)]^s [(3,.cst u)]^(Stm.hv [(8,b .lss (ad 1<|i 1)<|ln 0)] [] [(b .lss (ad 1<|i 1)<|ln 0,true)] (some 9) (.call false) (c2 (fn 188)<|ld (ia 1
 0 1))^Stm.hv [(10,p 8 9 f)] [] [(p 8 9 f,true)] (some 11) (.call false) (c2 (fn 188)<|ld<|ia 1 0<|ad 1<|i 1)^kq (p 10 11 f) (hh [(12,3)] 13 (.bSl [z,
 z,z,z,z,z,z,z,.bool false] 1 [0]) (c1<|.node (.build [z,z,z,z,z,z,z,z,.bool false] [(0,1),(1,1),(2,1),(3,1),(4,5)])<|c (ad (ad (i 130)
 (b .mul (i 10)<|n1 (.cvt .i64)<|b .sub (ld<|ia 1 0 1)<|.cst<|.int .u8 48))<|n1 (.cvt .i64)<|b .sub (ld<|ia 1 0<|ad 1<|i 1)<|.cst<|.int .u8 48) (c
 (i<|-1)<|c3 (i<|-1) (i 1)<|n1 (.build [z,z,z,z,.bool false] [(0,1)])<|ad 1<|i 2))^h 14 (.app 9 [z,z,z,z,z,z,z,z,.bool false]) (c2 12
 13)^s [(3,14)]))^kq (p (b .lss 1<|ln 0) (b .lss (ld<|ia 1 0 1)<|.cst<|.int .u8 128) f) (hh [(15,3)] 16 (.bSl [z,z,z,z,z,z,z,z,.bool false] 1
 [0]) (c1<|.node (.build [z,z,z,z,z,z,z,z,.bool false] [(0,1),(1,1),(2,1),(3,1),(4,5)])<|c (ad (n1 (.cvt .i64)<|ld<|ia 1 0 1)<|i 1)<|c (i
 (-1))<|c3 (i<|-1) (i 1)<|n1 (.build [z,z,z,z,.bool false] [(0,1)])<|ad 1<|i 1)^h 17 (.app 9 [z,z,z,z,z,z,z,z,.bool false]) (c2 15 16)^s
 [(3,17)])^kq (p (b .lss 1<|ln 0) (b .geq (ld<|ia 1 0 1)<|.cst<|.int .u8 128) f) (hh [(18,3)] 19 (.bSl [z,z,z,z,z,z,z,z,.bool false] 1 [0]) (c1
 (.node (.build [z,z,z,z,z,z,z,z,.bool false] [(0,1),(1,1),(2,1),(3,1),(4,5)])<|c (i 235) (c (b .sub (n1 (.cvt .i64)<|ld<|ia 1 0 1)<|i 127)
 (c3 (i<|-1) (i 2)<|n1 (.build [z,z,z,z,.bool false] [(0,1)])<|ad 1<|i 1))))^h 20 (.app 9 [z,z,z,z,z,z,z,z,.bool false]) (c2 18 19)^s [(3,
 20)])^(h 21 (.bSl [z] 5 [0,1,2,3,4]) (c (i 0)<|c (i 230)<|c3 (i 239) (i 238)<|i 240)^s [(4,21)])^(s [(5,i 1)]^bk 0 (lo<|k (b .leq 5<|i 4) e (xt
 0)^bk 1 (hh [(22,3)] 23 (.bSl [z,z,z,z,z,z,z,z,.bool false] 1 [0]) (c1<|.node (.build [z,z,z,z,z,z,z,z,.bool false] [(0,1),(1,1),(2,1),
 (3,1),(4,5)])<|c (ld<|ia 1 4 5)<|c (i<|-1)<|c3 (i<|-1) (i 1)<|n2 (.build [z,z,z,z,.bool false] [(0,1),(1,1)]) 1 5)^h 24 (.app 9 [z,z,z,z,
 z,z,z,z,.bool false]) (c2 22 23)^s [(3,24)])^s [(5,ad 5<|i 1)]))^(s [(6,i 1)]^bk 2 (lo<|k (p (b .leq 6<|i 1749) (b .leq (ad 1 6)<|ln 0) f) e (xt
 2)^bk 3 ((hh [(25,.node (.build [z,z,z,z,z,z,z,z,.bool false] [(0,1),(1,1),(2,1),(3,1),(4,5)])<|c (i 231)<|c 6<|c3 (i<|-1) (ad (i 2) 6) (n1
 (.build [z,z,z,z,.bool false] [(0,1)])<|ad 1 6))] 7 (.alloc [z,z,z,z,z,z,z,z,.bool false]) .nil^w 9 7 25)^kq (b .geq 6<|i 250) (w 1 (fa 1 7)
 (ad (b .quo 6<|i 250)<|i 249)^w 1 (fa 2 7) (b .rem 6<|i 250)^w 1 (fa 3 7) (ad (i 3) 6))^hh [(26,3)] 27 (.bSl [z,z,z,z,z,z,z,z,.bool false] 1 [0])
 (c1<|lt 9 7)^h 28 (.app 9 [z,z,z,z,z,z,z,z,.bool false]) (c2 26 27)^s [(3,28)])^s [(6,ad 6<|i 1)]))^s [(2,3)]^r
def LC:Stm:=
 (h 2 .box (c1 1)^s [(3,.cst u)])^s [(4,.cst u)]^s [(5,i 0)]^kq (b .eql (lf 2 2)<|i 0) ((hh [(11,4)] 12 (.bSl [z,z,z,z,z,z,z,z,.bool false] 1 [0])
 (c1<|.node (.build [z,z,z,z,z,z,z,z,.bool false] [(0,1),(1,1),(2,1),(3,1),(4,5)])<|c (i 254)<|c (i<|-1)<|c3 (i<|-1) (i 1)<|n1 (.build [z,
 z,z,z,.bool false] [(0,1)])<|lf 0 2)^h 13 (.app 9 [z,z,z,z,z,z,z,z,.bool false]) (c2 11 12)^s [(4,13)])^s [(5,i 2)])^s [(6,b .rem (ad (lf
 2 2)<|i 1)<|i 3)]^(s [(7,i 0)]^bk 0 (lo<|k (b .lss 7<|i 40) e (xt 0)^bk 1 ((hh [(14,.node (.build [z,z,z,z,.bool false] [(0,1),(1,1),(2,1)]) (c3
 (ad (lf 0 2)<|i 1) (lf 1 2) 6))] 8 (.alloc [z,z,z,z,.bool false]) .nil^w 5 8 14)^(cl 15 144 (c1 7)^s [(9,15)])^kq (b .neq (lf 1 2)<|i 3) (cl 16 187 (c3
 (lf 1 2) (lf 3 2) 7)^s [(9,16)])^kq (p (lf 4 2) (b .geq 9<|i 0) f) (s [(9,ad 9<|i 128)])^s [(10,p (p (b .geq 9<|i 0) (b .lss (lf 0 2)<|ln 0) f) (b .eql
 (n1 (.cvt .i64)<|ld<|ia 1 0<|lf 0 2) 9) f)]^kq (p (p (b .neq (lf 1 2)<|i 3) (b .eql (lf 3 2)<|i 0) f) (b .lss 7<|i 3) f) (w 5 8 (.node (.build [z,z,z,
 z,.bool false] [(0,1),(1,1),(2,1),(3,1),(4,1)])<|c (lf 0 2)<|c (lf 1 2)<|c3 6 (ad 7<|i 1)<|lf 4 2)^s [(10,t)])^kq (p (p (p (b .neq (lf 1 2) (i
 3)) (b .eql (lf 3 2)<|i 2) f) (b .eql 7<|i 30) f) (n1 (.un .not)<|lf 4 2) f) (w 5 8 (.node (.build [z,z,z,z,.bool false] [(0,1),(1,1),(2,1),(4,
 1)])<|c (lf 0 2)<|c3 (lf 1 2) 6 t)^s [(10,t)])^kq 10 (hh [(17,4)] 18 (.bSl [z,z,z,z,z,z,z,z,.bool false] 1 [0]) (c1<|.node (.build [z,z,z,z,z,
 z,z,z,.bool false] [(0,1),(1,1),(2,1),(3,1),(4,5)])<|c 7<|c (i<|-1)<|c3 (i<|-1) 5<|lt 5 8)^h 19 (.app 9 [z,z,z,z,z,z,z,z,.bool
 false]) (c2 17 18)^s [(4,19)]))^s [(7,ad 7<|i 1)]))^s [(3,4)]^r
def LD:Stm:=
 s [(1,f)]^(s [(2,i 2)]^bk 0 (lo<|k (b .leq (b .mul 2 2) 0) e (xt 0)^bk 1 (kq (b .eql (b .rem 0 2)<|i 0)<|s [(1,f)]^r)^s [(2,ad 2<|i 1)]))^s [(1,t)]^r
def LG:Stm:=
 s [(1,i 0)]^(cl 2 189 (c1<|n1 (.cvt .u64) 0)^s [(1,b .sub 2<|i 1)])^r
def LH:Stm:=
 s [(1,f)]^(s [(2,i 2)]^bk 0 (lo<|(cl 3 149 (c1 2)^hh [(4,b .mul (i 2) 3)] 5 (.call false) (c2 (fn 149) 0)^k (b .leq 4 5) e (xt 0))^bk 1 (cl 6 190 (c2 0 2)^kq
 (b .eql 6<|i 0) (s [(1,f)]^r))^s [(2,ad 2<|i 1)]))^s [(1,t)]^r
def LI:Stm:=
 (h 2 .box (c1 0)^s [(3,f)])^(s [(7,i 0),(6,ln 1),(5,1)]^bk 0 (lo<|k (b .lss 7 6) e (xt 0)^bk 1 (s [(4,ld<|ia 1 5 7)]^kq (p (b .lss 4<|i 0) t (b .geq 4
 (lf 1 2))) (s [(3,f)]^r))^s [(7,ad 7<|i 1)]))^s [(3,t)]^r
def LJ:Stm:=
 (h 4 .box (c1 0)^s [(5,.cst u)])^(h 9 (.mkSl [z]) (c2 (ad (ln 1)<|i 1)<|ad (ln 1)<|i 1)^s [(6,9)])^w 1 (ia 1 6<|i 0) 3^(s [(12,i 0),(11,ln 1),(10,
 1)]^bk 0 (lo<|k (b .lss 12 11) e (xt 0)^bk 1 (s [(8,ld<|ia 1 10 12),(7,12)]^(hh [(16,ld<|ia 1 6 7),(15,lt 4 4),(14,7),(13,6)] 17 (.call true) (c
 (fn 155)<|c3 (lt 4 4) 8 2)^h 18 .callC (c (fn 154)<|c3 15 16 17)^w 1 (ia 1 13 14) 18)^w 1 (ia 1 6<|ad 7<|i 1) 8)^s [(12,ad 12<|i 1)]))^s [(5,6)]^r
def LK:Stm:=
 (h 3 .box (c1 0)^s [(4,i 0)])^kq (b .eql 1<|i 0) (s [(4,i 0)]^r)^s [(4,ld<|ia 1 (lf 2 3)<|b .rem (b .sub (ad (b .sub (ld<|ia 1 (lf 3 3) 1)<|ld<|ia 1 (lf 3
 3) 2)<|lf 1 3)<|i 1)<|b .sub (lf 1 3)<|i 1)]^r
def LL:Stm:=
 (h 3 .box (c1 0)^s [(4,i 0)])^kq (b .eql (lf 0 3)<|i 2) (s [(4,b .xor 1 2)]^r)^s [(4,b .rem (ad (b .sub 1 2)<|lf 1 3)<|lf 1 3)]^r
def LM:Stm:=
 (h 3 .box (c1 0)^s [(4,i 0)])^kq (p (b .eql 1<|i 0) t<|b .eql 2<|i 0) (s [(4,i 0)]^r)^s [(4,ld<|ia 1 (lf 2 3)<|b .rem (ad (ld<|ia 1 (lf 3 3) 1)<|ld (ia 1
 (lf 3 3) 2))<|b .sub (lf 1 3)<|i 1)]^r
def EG:Stm:=
 s [(1,i 0)]^s [(2,i<|-1)]^bk 0 (lo<|k (b .gtr 0<|i 0) e (xt 0)^bk 1 (s [(0,b .quo 0<|i 2)]^s [(2,ad 2<|i 1)]))^s [(1,2)]^r
def LN:Stm:=
 s [(2,f)]^(Stm.hv [(4,b .lss 0<|i 0)] [] [(b .lss 0<|i 0,false)] (some 5) (.call false) (c2 (fn 156) 0)^kq (p 4 t<|b .neq 5 1) (s [(2,f)]^r))^(s [(3,i
 2)]^bk 0 (lo<|(cl 6 156 (c1 3)^k (b .leq (b .mul (i 2) 6) 1) e (xt 0))^bk 1 (cl 7 113 (c2 0 3)^kq (b .eql 7<|i 0) (s [(2,f)]^r))^s [(3,ad 3<|i 1)]))^s
 [(2,t)]^r
def LO:Stm:=
 s [(1,f)]^(s [(2,i 2)]^bk 0 (lo<|k (b .leq (b .mul 2 2) 0) e (xt 0)^bk 1 (kq (b .eql (b .rem 0 2)<|i 0)<|s [(1,f)]^r)^s [(2,ad 2<|i 1)]))^s [(1,b .geq
 0<|i 2)]^r
def LP:Stm:=
 (h 1 .box (c1 0)^s [(2,i 0)])^(s [(3,i 1)]^bk 0 (lo<|k (b .lss 3<|lf 1 1) e (xt 0)^bk 1 (hh [(5,b .sub (lf 1 1)<|i 1)] 4 (.call true) (c3 (fn 191) (lt 3 1)
 3)^kq (b .eql 4 5) (s [(2,3)]^r))^s [(3,ad 3<|i 1)]))^s [(2,i 0)]^r
def LQ:Stm:=
 (h 3 .box (c1 0)^s [(4,i 0)])^s [(5,i 1)]^bk 0 (lo<|k (b .gtr 2<|i 0) e (xt 0)^bk 1 (kq (b .eql (b .rem 2<|i 2)<|i 1) (cl 6 69 (c3 (lt 3 3) 5 1)^s [(5,
 6)])^(cl 7 69 (c3 (lt 3 3) 1 1)^s [(1,7)])^s [(2,b .quo 2<|i 2)]))^s [(4,5)]^r
def LR:Stm:=
 (h 1 .box (c1 0)^s [(2,i 0)])^s [(3,i 1)]^bk 0 (lo<|(hh [(5,b .sub (lf 1 1)<|i 1)] 4 (.call true) (c3 (fn 192) (lt 3 1) 3)^k (b .neq 4 5) e (xt 0))^bk 1 (s
 [(3,ad 3<|i 1)]))^s [(2,3)]^r
def LS:Stm:=
 (h 3 .box (c1 0)^s [(4,i 0)])^kq (b .eql (lf 2 3)<|i 0) (s [(4,b .rem (b .mul 1 2)<|lf 1 3)]^r)^s [(5,i 0)]^bk 0 (lo<|k (b .gtr 2<|i 0) e (xt 0)^bk 1 (kq
 (b .eql (b .and 2<|i 1)<|i 1) (s [(5,b .xor 5 1)])^s [(1,b .shl 1<|.cst<|.int .u64 1)]^kq (b .geq 1<|lf 1 3) (s [(1,b .xor 1<|lf 2 3)]))^s [(2,b
 .shr 2<|.cst<|.int .u64 1)])^s [(4,5)]^r
def MW:List Nat:=[0,1,2,3,4,6,7,8,9,11,14,16,17,25,26,27,28,32,33,34,41,42,43]
def MX:List Nat:=[0,1,2,3,4,5,10,11,12,13,21,25,26,27,32,35,36,42,46,47]
def MY:List Nat:=[0,1,4]
def MZ:List Nat:=[0,1,2,3,4,8,9,10,11,12,14,15,16,17,35,38,39,45,52,53]
def M0:List Nat:=[0,1,2,4,5,6,7,8,9,10,11,12,13,14,15,16,18,19,33,34,46,47,52,53,54,55,59,60]
def M1:List Nat:=[0,1,2,3,6,7,8,16,20,24,25]
def M2:List Nat:=[0,1,2,4,5,6,13,23,24,25]
def M3:List Nat:=[0,1,2,3,6]
def M4:List Nat:=[0,1,2,3,6]
def M5:List Nat:=[0,1,2,3,6]
def LU:Stm:=
 s [(3,.cst u)]^bk 0 (k (b .eql 2<|i 0) ((cl 4 194 (c2 0 1)^s [(3,4)])^r)<|k (b .lss 2<|i 9) ((cl 5 195 (c 0<|c 1<|c3 (b .sub 2<|i 1) (i 1) f)^s [(3,
 5)])^r)<|k (b .lss 2<|i 17) ((cl 6 195 (c 0<|c 1<|c3 (b .sub 2<|i 9) (i 9) t)^s [(3,6)])^r)<|kq (b .eql 2<|i 17)<|(cl 7 196 (c2 0 1)^s [(3,
 7)])^r)^(cl 8 197 (c2 0 1)^s [(3,8)])^r
def LV:Stm:=
 (h 2 .box (c1 1)^s [(3,i 0)])^(hh [(5,ld<|n2 (.iAddrA 19 1) (ia 19 (lf 1<|nk 0)<|lf 5 2)<|lf 6 2)] 4 (.call true) (c2 (fn 198)<|lt 7 2)^s [(3,ad 4
 5)])^r
def LW:Stm:=
 s [(2,i 0)]^(s [(9,i 0),(8,ln 0),(7,0)]^bk 0 (lo<|k (b .lss 9 8) e (xt 0)^bk 1 (s [(4,ld<|ia 1 7 9),(3,9)]^kq (b .geq 3<|ln 1) (s [(2,i 1)]^r)^s
 [(5,ld<|ia 1 1 3)]^(cl 10 199 (c2 4 5)^s [(6,10)])^kq (b .neq 6<|i 0) (s [(2,6)]^r))^s [(9,ad 9<|i 1)]))^kq (b .lss (ln 0)<|ln 1) (s [(2,i
 (-1))]^r)^s [(2,i 0)]^r
def LX:Stm:=
 (s [(3,.cst<|.int .u64 0),(2,.cst<|.int .u64 0)]^kq f ((cl 8 200 (c2 (n1 (.cvt .u32) 0)<|n1 (.cvt .u32) 1)^s [(5,ix 1 8),(4,ix 0 8)])^s [(3,n1 (.cvt
 .u64) 5),(2,n1 (.cvt .u64) 4)]^r))^(cl 9 201 (c2 0 1)^s [(7,ix 1 9),(6,ix 0 9)])^s [(3,7),(2,6)]^r
def LY:Stm:=
 h 3 .box (c1 1)^(s [(7,i 0),(6,lt 16 3)]^bk 0 (lo<|k (b .lss 7<|i 8) e (xt 0)^bk 1 ((hh [(9,n2 (.idx 8 2 true) 6 7),(8,7)] 5 (.alloc [z,z]) .nil^Stm.hv
 [(4,8)] [] [] none (.st 2) (c2 5 9))^v (.call false) (c 2<|c3 (ld<|n2 (.iAddrA 2 1) 5<|i 0) (ld<|n2 (.iAddrA 2 1) 5<|i 1) 4))^s [(7,ad 7<|i 1)]))^w 1
 (fa 3<|nk 0) (ad (lf 3<|nk 0)<|i 1)
def LZ:Stm:=
 h 2 .box (c1 1)^(s [(3,i 0)]^bk 0 (lo<|k (b .lss 3<|i 8) e (xt 0)^bk 1 (v (.call false)<|c (fn 202)<|c 0<|c3 (ld<|n2 (.iAddrA 16 1) 2<|b .mul (i 2) 3) (ld
 (n2 (.iAddrA 16 1) 2<|ad (b .mul (i 2) 3)<|i 1)) 3)^s [(3,ad 3<|i 1)]))^w 1 (fa 2<|nk 0) (ad (lf 2<|nk 0)<|i 1)
def M6:List Nat:=[0,2,3,4,5]
def M7:List Nat:=[0,1,2,6,7,8]
def M8:List Nat:=[0,2,3,4,24,29]
def M9:List Nat:=[0,2]
def Ma:List Nat:=[0,1,2,6]
def Mb:List Nat:=[0,2]
def L0:Stm:=
 (s [(1,i 0)]^kq f ((cl 2 203 (c1<|n1 (.cvt .u32) 0)^s [(1,2)])^r))^(cl 3 204 (c1 0)^s [(1,3)])^r
def L5:Stm:=
 s [(2,i 0)]^bk 0 (lo<|(cl 3 149 (c1 0)^cl 4 149 (c1 1)^k (b .geq 3 4) e (xt 0))^bk 1 (hh [(6,1),(5,0)] 7 (.call false) (c2 (fn 149) 0)^cl 8 149 (c1 1)^s
 [(0,b .xor 5<|b .shl 6<|b .sub 7 8)]))^s [(2,0)]^r
def L6:Stm:=
 (h 2 .box (c1 0)^s [(3,i 0)])^s [(5,1),(4,i 1)]^bk 0 (lo<|k (p (b .neq 5<|i 1) (b .lss 4<|lf 1 2) f) e (xt 0)^bk 1 ((cl 6 69 (c3 (lt 3 2) 5 1)^s [(5,
 6)])^s [(4,ad 4<|i 1)]))^s [(3,4)]^r
def L7:Stm:=
 (h 2 .box (c1 0)^s [(3,i 0)])^s [(4,i 1)]^(s [(5,1)]^bk 0 (lo<|k (b .neq 5<|i 1) e (xt 0)^bk 1 (s [(4,ad 4<|i 1)])^cl 6 162 (c3 (lt 3 2) 5 1)^s [(5,
 6)]))^s [(3,4)]^r
def Mc:List Nat:=[0,1,2,3,6]
def L8:Stm:=
 s [(2,.cst u)]^(h 7 (.bSl [z,z,z,z,z,z,z] 4 [0,1,2,3]) (c (.node (.build [z,z,z,z,z,z,z] [(0,3),(3,1),(5,1),(6,1)])<|c (n1 (.build [z,z,
 z] [(0,1)])<|i 230)<|c3 (i 1) 1<|i 1)<|c3 (.node (.build [z,z,z,z,z,z,z] [(0,3),(3,1),(5,1),(6,1)])<|c (n1 (.build [z,z,z] [(0,1)]) (i
 239))<|c3 (i 1) 1<|i 9) (.node (.build [z,z,z,z,z,z,z] [(0,3),(3,1),(5,1),(6,1)])<|c (n1 (.build [z,z,z] [(0,1)])<|i 238)<|c3 (i 1) 1 (i
 17))<|.node (.build [z,z,z,z,z,z,z] [(0,3),(3,1),(5,1),(6,1)])<|c (n1 (.build [z,z,z] [(0,1)])<|i 240)<|c3 (i 1) 1<|i 18)^s [(3,
 7)])^s [(4,n2 (.sl 1 true false false) (lf 0<|nk 0) 1)]^kq (b .eql (ln 4)<|i 0) (s [(2,3)]^r)^s [(5,n1 (.cvt .i64)<|ld<|ia 1 4<|i 0)]^k (b .lss 5 (i
 128)) (hh [(8,3)] 9 (.bSl [z,z,z,z,z,z,z] 1 [0]) (c1<|.node (.build [z,z,z,z,z,z,z] [(0,3),(3,1),(5,1)])<|c3 (n1 (.build [z,z,z] [(0,1)])
 (ad 5<|i 1)) (i 1)<|ad 1<|i 1)^h 10 (.app 7 [z,z,z,z,z,z,z]) (c2 8 9)^s [(3,10)]) (hh [(11,3)] 12 (.bSl [z,z,z,z,z,z,z] 1 [0]) (c1 (.node
 (.build [z,z,z,z,z,z,z] [(0,3),(3,1),(5,1)])<|c3 (n2 (.build [z,z,z] [(0,1),(1,1)]) (i 235)<|b .sub 5<|i 127) (i 2)<|ad 1<|i 1))^h 13
 (.app 7 [z,z,z,z,z,z,z]) (c2 11 12)^s [(3,13)])^(Stm.hv [(14,b .geq (ln 4)<|i 2)] [] [(b .geq (ln 4)<|i 2,true)] (some 15) (.call false) (c2 (fn
 205)<|ld<|ia 1 4<|i 0)^Stm.hv [(16,p 14 15 f)] [] [(p 14 15 f,true)] (some 17) (.call false) (c2 (fn 205)<|ld<|ia 1 4<|i 1)^kq (p 16 17 f) (s [(6,b
 .sub (ad (b .mul (i 10)<|b .sub 5<|i 48)<|n1 (.cvt .i64)<|ld<|ia 1 4<|i 1)<|i 48)]^hh [(18,3)] 19 (.bSl [z,z,z,z,z,z,z] 1 [0]) (c1 (.node
 (.build [z,z,z,z,z,z,z] [(0,3),(3,1),(5,1)])<|c3 (n1 (.build [z,z,z] [(0,1)])<|ad (i 130) 6) (i 1)<|ad 1<|i 2))^h 20 (.app 7 [z,z,z,z,z,
 z,z]) (c2 18 19)^s [(3,20)]))^(hh [(21,3)] 22 (.call false) (c3 (fn 206) 0 1)^h 23 (.bSl [z,z,z,z,z,z,z] 1 [0]) (c1 22)^h 24 (.app 7 [z,z,z,z,z,
 z,z]) (c2 21 23)^s [(2,24)])^r
def L9:Stm:=
 s [(5,.cst u)]^(h 12 (.bSl [z,z,z,z,z,z,z] 1 [0]) (c1<|.node (.build [z,z,z,z,z,z,z] [(0,3),(3,1),(5,1),(6,1)])<|c (n1 (.build [z,z,z]
 [(0,1)])<|i 254)<|c3 (i 1) 1<|i 0)^s [(6,12)])^(hh [(13,.node (.build [z,z,.bool false] [(0,1),(1,1),(2,1)])<|c3 1 (b .rem 2<|i 4) (b .geq 2
 (i 4)))] 7 (.alloc [z,z,.bool false]) .nil^w 3 7 13)^((cl 14 207 (c3 0 (lt 3 7) 4)^s [(16,i 0),(15,ln 14)])^bk 0 (lo (k (b .lss 16 15) e (xt 0)^bk 1
 ((hh [(17,lt 4<|ia 4 14 16)] 8 (.alloc [z,z,z,.bool false]) .nil^w 4 8 17)^(cl 18 207 (c3 0 (lt 3<|fa 1 8) 4)^s [(20,i 0),(19,ln 18)])^bk 2 (lo<|k (b
 .lss 20 19) e (xt 2)^bk 3 ((hh [(21,lt 4<|ia 4 18 20)] 9 (.alloc [z,z,z,.bool false]) .nil^w 4 9 21)^(cl 22 207 (c3 0 (lt 3<|fa 1 9) 4)^s [(24,i 0),
 (23,ln 22)])^bk 4 (lo<|k (b .lss 24 23) e (xt 4)^bk 5 ((hh [(25,lt 4<|ia 4 22 24)] 10 (.alloc [z,z,z,.bool false]) .nil^w 4 10 25)^s [(11,ad 3 (lf 1
 (fa 1 10)))]^kq (lf 2<|fa 1 10) (s [(11,ad 11<|i 4)])^hh [(26,6)] 27 (.call false) (c (fn 208)<|c (lf 0 8)<|c (lf 0 9) (c3 (lf 0 10) (lf 0<|fa 1 10)
 11))^h 28 (.bSl [z,z,z,z,z,z,z] 1 [0]) (c1 27)^h 29 (.app 7 [z,z,z,z,z,z,z]) (c2 26 28)^s [(6,29)])^s [(24,ad 24<|i 1)]))^s [(20,ad 20 (i
 1))]))^s [(16,ad 16<|i 1)])))^s [(5,6)]^r
def La:Stm:=
 s [(2,.cst u)]^(h 6 (.bSl [z,z,z,z,z,z,z] 1 [0]) (c1<|.node (.build [z,z,z,z,z,z,z] [(0,3),(3,1),(5,1),(6,1)])<|c (n1 (.build [z,z,z] [(0,
 1)])<|i 254)<|c3 (i 1) 1<|i 0)^s [(3,6)])^kq (b .lss (b .sub (ln<|lf 0<|nk 0) 1)<|i 3) (s [(2,3)]^r)^h 4 (.alloc [z,z,z]) .nil^(s [(7,i 0)]^bk 0
 (lo<|k (b .lss 7<|i 3) e (xt 0)^bk 1 (s [(5,7)]^(hh [(8,5)] 9 (.call false) (c2 (fn 209)<|ld<|ia 1 (lf 0<|nk 0)<|ad 1 5)^w 1 (n2 (.iAddrA 3 1) 4 8)
 9)^kq (b .lss (ld<|n2 (.iAddrA 3 1) 4 5)<|i 0) (s [(2,3)]^r))^s [(7,ad 7<|i 1)]))^(hh [(10,3)] 11 (.call false) (c (fn 208)<|c (ld (n2 (.iAddrA 3 1) 4
 (i 0)))<|c (ld<|n2 (.iAddrA 3 1) 4<|i 1)<|c3 (ld<|n2 (.iAddrA 3 1) 4<|i 2) (ad 1<|i 3)<|i 17)^h 12 (.bSl [z,z,z,z,z,z,z] 1 [0]) (c1 11)^h 13
 (.app 7 [z,z,z,z,z,z,z]) (c2 10 12)^s [(2,13)])^r
def Lb:Stm:=
 s [(2,.cst u)]^s [(3,.cst u)]^s [(4,i 0)]^(s [(7,i 0)]^bk 0 (lo<|k (b .lss 7<|i 4) e (xt 0)^bk 1 (s [(5,7)]^(hh [(8,3)] 9 (.call false) (c (fn 210)<|c (b
 .or (b .shl 4<|.cst<|.int .u64 6)<|i 31)<|c3 (ad 5<|i 1) (ad 1 5)<|i 0)^h 10 (.bSl [z,z,z,z,z,z,z] 1 [0]) (c1 9)^h 11 (.app 7 [z,z,z,z,z,z,
 z]) (c2 8 10)^s [(3,11)])^kq (b .geq (ad 1 5)<|ln<|lf 0<|nk 0) (s [(2,3)]^r)^s [(6,ld<|ia 1 (lf 0<|nk 0)<|ad 1 5)]^kq (p (b .lss 6<|.cst (.int .u8
 32)) t<|b .gtr 6<|.cst<|.int .u8 94) (s [(2,3)]^r)^s [(4,b .or (b .shl 4<|.cst<|.int .u64 6)<|b .and (n1 (.cvt .i64) 6)<|i 63)])^s [(7,ad 7 (i
 1))]))^(hh [(12,3)] 13 (.call false) (c (fn 210)<|c 4<|c3 (i 4) (ad 1<|i 4)<|i 18)^h 14 (.bSl [z,z,z,z,z,z,z] 1 [0]) (c1 13)^h 15 (.app 7 [z,z,
 z,z,z,z,z]) (c2 12 14)^s [(2,15)])^r
def Lc:Stm:=
 (h 1 .box (c1 0)^s [(2,i 0)])^s [(2,ad (lf 3 1)<|lf 4 1)]^r
def Ld:Stm:=
 s [(2,i 0)]^(cl 5 211 (c1 0)^s [(3,5)])^(cl 6 211 (c1 1)^s [(4,6)])^kq 3 (kq 4 (s [(2,i 0)]^r)^s [(2,i<|-1)]^r)^kq 4 (s [(2,i 1)]^r)^kq (b .lss 0 1) (s
 [(2,i<|-1)]^r)^kq (b .gtr 0 1) (s [(2,i 1)]^r)^s [(2,i 0)]^r
def Md:List Nat:=[0,1,4,5,6]
def Le:Stm:=
 s [(3,.cst<|.int .u64 0),(2,.cst<|.int .u64 0)]^s [(4,b .and 0<|.cst<|.int .u64 4294967295)]^s [(5,b .shr 0<|.cst<|.int .u64 32)]^s [(6,b .and 1
 (.cst<|.int .u64 4294967295))]^s [(7,b .shr 1<|.cst<|.int .u64 32)]^s [(8,b .mul 4 6)]^s [(9,ad (b .mul 5 6)<|b .shr 8<|.cst<|.int .u64 32)]^s [(10,
 b .and 9<|.cst<|.int .u64 4294967295)]^s [(11,b .shr 9<|.cst<|.int .u64 32)]^s [(10,ad 10<|b .mul 4 7)]^s [(2,ad (ad (b .mul 5 7) 11)<|b .shr 10 (.cst
 (.int .u64 32)))]^s [(3,b .mul 0 1)]^r
def Lf:Stm:=
 kq (b .lss 1<|i 0) (s [(1,ad 1<|lf 0<|nk 0)]^s [(2,b .sub (ad 2<|i 4)<|b .rem (ad (lf 0<|nk 0)<|i 4)<|i 8)])^kq (b .lss 2<|i 0) (s [(2,ad 2 (lf 1
 (nk 0)))]^s [(1,b .sub (ad 1<|i 4)<|b .rem (ad (lf 1<|nk 0)<|i 4)<|i 8)])^w 1 (ia 1 (lf 3<|nk 0)<|ad (b .mul 1<|lf 1<|nk 0) 2) (ad (b .mul (i 8) (lf
 2<|nk 0)) 3)
def Me:List Nat:=[0,2]
def Lg:Stm:=
 s [(1,i 0)]^kq (b .geq 0<|.cst<|.int .u64 4294967296) (s [(0,b .shr 0<|.cst<|.int .u64 32)]^s [(1,i 32)])^kq (b .geq 0<|.cst<|.int .u64 65536) (s [(0,
 b .shr 0<|.cst<|.int .u64 16)]^s [(1,ad 1<|i 16)])^kq (b .geq 0<|.cst<|.int .u64 256) (s [(0,b .shr 0<|.cst<|.int .u64 8)]^s [(1,ad 1<|i 8)])^s
 [(1,ad 1<|n1 (.cvt .i64)<|n2 .idxS (.cst<|.string JA)<|n1 (.cvt .u8) 0)]^r
def Mf:List Nat:=[0,2]
def Lh:Stm:=
 h 2 (.alloc [z,z,z,z,z,z,z]) .nil^h 3 (.alloc [z,z,z,z,z,z,z]) .nil^(s [(4,i 1)]^bk 0 (lo<|k (p (b .leq 4<|b .sub (ln<|lf 0<|nk 0) 1) (b .leq 4
 (i 1749)) f) e (xt 0)^bk 1 ((hh [(6,.node (.build [z,z,z,z,z,z,z] [(0,3),(3,1),(4,1),(5,1)])<|c (n2 (.build [z,z,z] [(0,1),(1,1)]) (i 231)
 4)<|c3 (i 2) 4<|ad 1 4)] 5 (.alloc [z,z,z,z,z,z,z]) .nil^w 7 5 6)^kq (b .geq 4<|i 250) (w 3 (fa 0 5) (.node (.build [z,z,z] [(0,1),(1,1),(2,
 1)])<|c3 (i 231) (ad (i 249)<|b .quo 4<|i 250)<|b .rem 4<|i 250)^w 1 (fa 3 5) (i 3))^Stm.hv [(10,p (b .eql 4<|i 1) (.cst<|.tuple #[])<|lt 7 3),(9,p
 (b .eql 4<|i 1) (.cst<|.tuple #[]) 0),(7,b .eql 4<|i 1)] [] [(b .eql 4<|i 1,false)] (some 8) (.call true) (c3 (fn 177) 0<|lt 7 5)^Stm.hv [] [] [(7,
 false)] (some 11) .callC (c3 (fn 177) 9 10)^kq (p 7 t<|b .lss 8 11) (w 7 3<|lt 7 5))^s [(4,ad 4<|i 1)]))^w 7 2 (lt 7 3)^r
def Li:Stm:=
 (h 3 .box (c1 1)^s [(4,.cst u)])^s [(5,.cst u)]^kq (b .eql (lf 1 3)<|i 0) (s [(10,i 0)]^bk 0 (lo<|k (b .lss 10<|i 3) e (xt 0)^bk 1 (s [(6,10)]^hh [(11,
 5)] 12 (.bSl [z,z,z,.bool false] 1 [0]) (c1<|n2 (.build [z,z,z,.bool false] [(0,1),(1,3)]) 6<|.node (.build [z,z,.bool false] [(0,1),(1,1),(2,
 1)])<|c3 (lf 0 3) (ad 6<|i 1)<|lf 2 3)^h 13 (.app 4 [z,z,z,.bool false]) (c2 11 12)^s [(5,13)])^s [(10,ad 10<|i 1)]))^kq (b .lss (lf 0 3)<|ln (lf
 0<|nk 0)) (s [(7,ld<|ia 1 (lf 0<|nk 0)<|lf 0 3)]^(cl 14 212 (c2 2<|b .and 7<|.cst<|.int .u8 127)^s [(9,ix 1 14),(8,ix 0 14)])^kq (p (b .eql 8 (lf
 1 3)) (n2 (.eqB false) (lf 2 3)<|b .geq 7<|.cst<|.int .u8 128) f) (hh [(15,5)] 16 (.bSl [z,z,z,.bool false] 1 [0]) (c1<|n2 (.build [z,z,z,.bool
 false] [(0,1),(1,3)]) 9<|n1 (.build [z,z,.bool false] [(0,1)])<|ad (lf 0 3)<|i 1)^h 17 (.app 4 [z,z,z,.bool false]) (c2 15 16)^s [(5,17)]))^kq
 (p (b .eql (lf 1 3)<|i 2) (n1 (.un .not)<|lf 2 3) f) (hh [(18,5)] 19 (.bSl [z,z,z,.bool false] 1 [0]) (c1<|n2 (.build [z,z,z,.bool false] [(0,1),
 (1,3)]) (i 30)<|n2 (.build [z,z,.bool false] [(0,1),(2,1)]) (lf 0 3) t)^h 20 (.app 4 [z,z,z,.bool false]) (c2 18 19)^s [(5,20)])^s [(4,5)]^r
def Lj:Stm:=
 h 5 (.alloc [z,z,z,z,z,z,z]) .nil^s [(6,ad (ad (ad (b .mul (i 1600) 0)<|b .mul (i 40) 1) 2)<|i 1)]^w 7 5 (.node (.build [z,z,z,z,z,z,z] [(0,3),
 (3,1),(5,1),(6,1)])<|c (n2 (.build [z,z,z] [(0,1),(1,1)]) (b .quo 6<|i 256)<|b .rem 6<|i 256)<|c3 (i 2) 3 4)^r
def Mg:List Nat:=[0,2]
def Lk:Stm:=
 h 4 (.alloc [z,z,z,z,z,z,z]) .nil^s [(0,b .shl 0<|b .mul (i 6)<|b .sub (i 4) 1)]^w 7 4 (.node (.build [z,z,z,z,z,z,z] [(0,3),(3,1),(5,1),
 (6,1)])<|c (.node (.build [z,z,z] [(0,1),(1,1),(2,1)])<|c3 (b .shr 0<|.cst<|.int .u64 16) (b .and (b .shr 0<|.cst<|.int .u64 8)<|i 255) (b .and 0
 (i 255)))<|c3 (b .quo (ad (b .mul (i 6) 1)<|i 7)<|i 8) 2 3)^r
def Ll:Stm:=
 s [(1,f)]^s [(1,b .neq 0 0)]^r
def Mh:List Nat:=[0,1,4,5,6,7,8]
end
theorem kR{P:Prop}(h:P:=by kernel_rfl):P:=h
theorem Um:(aE Tryz.prog TG 12).all aL=true:=by kernel_rfl
theorem Un:(aE Tryz.prog TH 15).all aL=true:=by kernel_rfl
theorem Uo:(aE Tryz.prog TI 16).all aL=true:=by kernel_rfl
theorem Up:(aE Tryz.prog TJ 21).all aL=true:=by kernel_rfl
theorem Uq:(aE Tryz.prog TK 26).all aL=true:=by kernel_rfl
theorem Ur:(aE Tryz.prog TL 36).all aL=true:=by kernel_rfl
theorem Us:(aE Tryz.prog TM 45).all aL=true:=by kernel_rfl
theorem Ut:(aE Tryz.prog TN 46).all aL=true:=by kernel_rfl
theorem Uu:(aE Tryz.prog TO 53).all aL=true:=by kernel_rfl
theorem Uv:(aE Tryz.prog TP 55).all aL=true:=by kernel_rfl
theorem Uw:(aE Tryz.prog TQ 72).all aL=true:=by kernel_rfl
theorem Ux:(aE Tryz.prog TR 86).all aL=true:=by kernel_rfl
theorem Uy:(aE Tryz.prog TS 87).all aL=true:=by kernel_rfl
theorem Uz:(aE Tryz.prog TT 88).all aL=true:=by kernel_rfl
theorem VA:(aE Tryz.prog TU 89).all aL=true:=by kernel_rfl
theorem Rt:(aE Tryz.prog MK 116).all aL=true:=by kernel_rfl
theorem Ru:(aE Tryz.prog ML 117).all aL=true:=by kernel_rfl
theorem Rv:(aE Tryz.prog MM 118).all aL=true:=by kernel_rfl
theorem Rw:(aE Tryz.prog MN 119).all aL=true:=by kernel_rfl
theorem Rx:(aE Tryz.prog MO 120).all aL=true:=by kernel_rfl
theorem Ry:(aE Tryz.prog MP 121).all aL=true:=by kernel_rfl
theorem Rz:(aE Tryz.prog MQ 138).all aL=true:=by kernel_rfl
theorem SA:(aE Tryz.prog MR 139).all aL=true:=by kernel_rfl
theorem SB:(aE Tryz.prog MS 140).all aL=true:=by kernel_rfl
theorem SD:(aE Tryz.prog MT 141).all aL=true:=by kernel_rfl
theorem SE:(aE Tryz.prog MU 142).all aL=true:=by kernel_rfl
theorem SF:(aE Tryz.prog MV 144).all aL=true:=by kernel_rfl
theorem SG:(aE Tryz.prog MW 163).all aL=true:=by kernel_rfl
theorem SH:(aE Tryz.prog MX 164).all aL=true:=by kernel_rfl
theorem SI:(aE Tryz.prog MY 165).all aL=true:=by kernel_rfl
theorem SJ:(aE Tryz.prog MZ 166).all aL=true:=by kernel_rfl
theorem SK:(aE Tryz.prog M0 167).all aL=true:=by kernel_rfl
theorem SL:(aE Tryz.prog M1 168).all aL=true:=by kernel_rfl
theorem SM:(aE Tryz.prog M2 169).all aL=true:=by kernel_rfl
theorem SN:(aE Tryz.prog M3 170).all aL=true:=by kernel_rfl
theorem SO:(aE Tryz.prog M4 171).all aL=true:=by kernel_rfl
theorem SP:(aE Tryz.prog M5 172).all aL=true:=by kernel_rfl
theorem SQ:(aE Tryz.prog M6 182).all aL=true:=by kernel_rfl
theorem SR:(aE Tryz.prog M7 183).all aL=true:=by kernel_rfl
theorem SS:(aE Tryz.prog M8 184).all aL=true:=by kernel_rfl
theorem SU:(aE Tryz.prog M9 185).all aL=true:=by kernel_rfl
theorem SV:(aE Tryz.prog Ma 187).all aL=true:=by kernel_rfl
theorem SW:(aE Tryz.prog Mb 188).all aL=true:=by kernel_rfl
theorem SX:(aE Tryz.prog Mc 193).all aL=true:=by kernel_rfl
theorem SY:(aE Tryz.prog Md 200).all aL=true:=by kernel_rfl
theorem SZ:(aE Tryz.prog Me 203).all aL=true:=by kernel_rfl
theorem S8:(aE Tryz.prog Mf 205).all aL=true:=by kernel_rfl
theorem S9:(aE Tryz.prog Mg 209).all aL=true:=by kernel_rfl
theorem Sa:(aE Tryz.prog Mh 212).all aL=true:=by kernel_rfl
noncomputable def Eg:FuncId->Option CF
 | 5=>some cf5
 | 12=>aE Tryz.prog TG 12
 | 13=>some ⟨2,27,[(.var 3),(.var 4)],Pv,.plain⟩
 | 14=>some ⟨2,29,[(.var 3),(.var 4)],Pw,.plain⟩
 | 15=>aE Tryz.prog TH 15
 | _=>none
theorem zU(f:FuncId)(cf:CF)(h:Eg f=some cf):∃t,aE Tryz.prog t f=some cf:=by
 unfold Eg at h;split at h
 .cases h;exact⟨[0,1,4,5,6,7,8,12,16,17,18,22,23,24,28,31,33,34],kR⟩
 .exact⟨_,h⟩
 .cases h;exact⟨[0,1,3,4,5,6,7,8,9,10,11,12,13,14,19,25,26,27,36,38,39,43,48,49,55,56,57],kR⟩
 .cases h;exact⟨[0,1,3,4,5,6,7,8,9,11,12,13,15,23,33,34,35,37,38,39,42,44,45,46,47,48,62,73,74],kR⟩
 .exact⟨_,h⟩
 .simp at h
noncomputable def Eh:FuncId->Option CF
 | 16=>aE Tryz.prog TI 16
 | 18=>some Tp
 | 19=>some ⟨2,20,[(.node (.ld 3 true)<|.cons (.var 2) .nil),(.var 3)],Py,.plain⟩
 | 20=>some ⟨2,6,[(.var 4)],Pz,.plain⟩
 | 21=>aE Tryz.prog TJ 21
 | 25=>some ⟨1,50,[(.var 1),(.var 2)],QA,.plain⟩
 | 26=>aE Tryz.prog TK 26
 | 27=>some ⟨3,12,[(.var 4)],QB,.plain⟩
 | 28=>some ⟨1,12,[(.node (.ld 5 true)<|.cons (.var 2) .nil),(.var 3)],QC,.plain⟩
 | 29=>some ⟨2,35,[(.var 3),(.var 4)],QD,.plain⟩
 | 30=>some ⟨3,9,[(.var 3)],QE,.plain⟩
 | 31=>some ⟨1,6,[(.var 2)],QF,.plain⟩
 | _=>none
theorem zV(f:FuncId)(cf:CF)(h:Eh f=some cf):∃t,aE Tryz.prog t f=some cf:=by
 unfold Eh at h;split at h
 .exact⟨_,h⟩
 .cases h;exact⟨[0,1,4,5,6,7,8,9,10,13,19,25,26,27,31,36,42,46,52,55,57],kR⟩
 .cases h;exact⟨[0,1,4,5,6,7,8,9,10,12,16,22,28,29,30,34,39,45,50,52],kR⟩
 .cases h;exact⟨[0,1,2,3,4,5],kR⟩
 .exact⟨_,h⟩
 .cases h;exact⟨[0,2,3,4,5,6,7,8,9,10,15,16,30,31,34,35,53,58,59,69,70,71,72,78,79,80,84,90,91,92,102,111,112,113,118,121,122,126,129,130,135,138,139,143,145,146,151,152,153,156],kR⟩
 .exact⟨_,h⟩
 .cases h;exact⟨[0,1,2,4,6,8,9,10,11,17,18,19],kR⟩
 .cases h;exact⟨[0,1,2,3,4,5,7,8,9,13,20,22],kR⟩
 .cases h;exact⟨[0,1,2,4,5,6,7,8,9,10,11,13,14,15,16,19,24,31,36,48,49,50,51,66,68,69,70,78,82,83,84,90,94,98,100],kR⟩
 .cases h;exact⟨[0,1,2,6,7,8,17,22,23],kR⟩
 .cases h;exact⟨[0,1,2,3,4,5],kR⟩
 .simp at h
noncomputable def Ei:FuncId->Option CF
 | 32=>some ⟨1,3,[(.var 1)],QG,.plain⟩
 | 33=>some ⟨2,30,[(.var 3),(.var 4)],QH,.plain⟩
 | 34=>some ⟨1,7,[(.node (.ld 5 true)<|.cons (.var 2) .nil)],QI,.plain⟩
 | 35=>some ⟨3,9,[(.var 3)],QJ,.plain⟩
 | 36=>aE Tryz.prog TL 36
 | 38=>some ⟨1,5,[(.var 1),(.var 2)],QK,.plain⟩
 | 39=>some ⟨2,10,[(.node (.ld 7 true)<|.cons (.var 2) .nil),(.var 3)],QL,.plain⟩
 | 40=>some ⟨2,11,[(.var 2),(.var 3)],QM,.plain⟩
 | 41=>some Tq
 | 42=>some ⟨2,11,[(.node (.ld 7 true)<|.cons (.var 2) .nil),(.var 3)],QO,.plain⟩
 | 43=>some ⟨2,12,[(.var 2),(.var 3)],QP,.plain⟩
 | 44=>some ⟨2,28,[(.node (.ld 3 true)<|.cons (.var 3) .nil),(.var 4)],QQ,.plain⟩
 | 45=>aE Tryz.prog TM 45
 | 46=>aE Tryz.prog TN 46
 | _=>none
theorem zW(f:FuncId)(cf:CF)(h:Ei f=some cf):∃t,aE Tryz.prog t f=some cf:=by
 unfold Ei at h;split at h
 .cases h;exact⟨[0,2,3],kR⟩
 .cases h;exact⟨[0,1,2,4,5,6,7,8,9,10,11,12,13,15,17,21,40,43,46,62,79,80,82,83,95,96,104,111,112,113],kR⟩
 .cases h;exact⟨[0,1,2,3,12,13,14],kR⟩
 .cases h;exact⟨[0,1,2,6,7,8,17,22,23],kR⟩
 .exact⟨_,h⟩
 .cases h;exact⟨[0,2,3,8,9],kR⟩
 .cases h;exact⟨[0,1,4,5,6,8,15,16,17,20],kR⟩
 .cases h;exact⟨[0,1,4,5,7,8,9,10,11,12,30],kR⟩
 .cases h;exact⟨[0,1,3,4,5,7,8,9,10,11,12,13,14,15,16,17,29,30,31,45,50,52,54,60,61,64,65,77,109,110,115],kR⟩
 .cases h;exact⟨[0,1,4,5,6,7,8,9,13,14,24],kR⟩
 .cases h;exact⟨[0,1,4,5,6,7,8,10,20,44,46,47],kR⟩
 .cases h;exact⟨[0,1,3,4,5,6,7,8,9,10,11,12,13,14,15,16,17,18,19,20,69,74,79,96,104,140,142,143],kR⟩
 .exact⟨_,h⟩
 .exact⟨_,h⟩
 .simp at h
noncomputable def Ej:FuncId->Option CF
 | 49=>some ⟨1,18,[(.var 1)],QR,.plain⟩
 | 50=>some ⟨3,21,[(.node (.ld 9 true)<|.cons (.var 4) .nil)],QT,.plain⟩
 | 51=>some ⟨2,3,[(.var 2)],QU,.plain⟩
 | 52=>some ⟨1,5,[(.var 1)],QV,.plain⟩
 | 53=>aE Tryz.prog TO 53
 | 54=>some ⟨2,5,[(.var 3)],My,.plain⟩
 | 55=>aE Tryz.prog TP 55
 | 56=>some ⟨2,7,[(.node (.ld 3 true)<|.cons (.var 2) .nil),(.var 3)],QW,.plain⟩
 | 57=>some ⟨3,8,[(.node (.ld 5 true)<|.cons (.var 4) .nil),(.var 5)],QX,.plain⟩
 | 58=>some ⟨2,9,[(.var 3)],QY,.plain⟩
 | 59=>some ⟨2,4,[(.var 3)],QZ,.plain⟩
 | 60=>some ⟨1,16,[(.var 2),(.var 3)],Q0,.plain⟩
 | 61=>some ⟨3,12,[(.var 4),(.var 5),(.var 6)],Q1,.plain⟩
 | 62=>some ⟨1,4,[(.var 1)],Mz,.plain⟩
 | 63=>some ⟨3,9,[(.var 4),(.var 5)],Q3,.plain⟩
 | _=>none
theorem zX(f:FuncId)(cf:CF)(h:Ej f=some cf):∃t,aE Tryz.prog t f=some cf:=by
 unfold Ej at h;split at h
 .cases h;exact⟨[0,2,3,4,5,6,7,8,9,13,21,45,46,53,55,65,66,68],kR⟩
 .cases h;exact⟨[0,1,2,4,6,7,8,9,10,13,14,25,38,40,43,47,48,50,54,57,63],kR⟩
 .cases h;exact⟨[0,1,4],kR⟩
 .cases h;exact⟨[0,2,3,4,10],kR⟩
 .exact⟨_,h⟩
 .cases h;exact⟨[0,1,3,4,7],kR⟩
 .exact⟨_,h⟩
 .cases h;exact⟨[0,1,4,5,6,17,19],kR⟩
 .cases h;exact⟨[0,1,2,3,6,7,9,15],kR⟩
 .cases h;exact⟨[0,1,2,4,7,8,15,17,21],kR⟩
 .cases h;exact⟨[0,1,2,4],kR⟩
 .cases h;exact⟨[0,1,2,3,4,5,6,8,12,15,17,18,21,22,28,34],kR⟩
 .cases h;exact⟨[0,1,2,3,6,7,8,9,12,13,20,23],kR⟩
 .cases h;exact⟨[0,2,3,21],kR⟩
 .cases h;exact⟨[0,1,2,3,6,7,8,11,12],kR⟩
 .simp at h
noncomputable def Ek:FuncId->Option CF
 | 64=>some ⟨1,5,[(.var 2)],Q4,.plain⟩
 | 65=>some ⟨2,6,[(.var 3)],Q5,.plain⟩
 | 66=>some ⟨1,14,[(.var 2)],Q6,.plain⟩
 | 67=>some ⟨3,5,[(.var 4)],Q7,.plain⟩
 | 68=>some ⟨3,5,[(.var 4)],Q8,.plain⟩
 | 69=>some ⟨3,8,[(.var 4)],Q9,.plain⟩
 | 70=>some ⟨3,10,[(.node (.ld 5 true)<|.cons (.var 4) .nil),(.var 5)],Qa,.plain⟩
 | 71=>some ⟨1,22,[(.node (.ld 4 true)<|.cons (.var 2) .nil)],Qb,.plain⟩
 | 72=>aE Tryz.prog TQ 72
 | 75=>some ⟨1,9,[(.var 1)],Qc,.plain⟩
 | 76=>some ⟨1,30,[(.var 1)],mc,.plain⟩
 | 77=>some ⟨1,4,[(.var 2),(.var 3)],Qd,.plain⟩
 | 78=>some Tr
 | 79=>some ⟨3,11,[(.node (.ld 3 true)<|.cons (.var 4) .nil)],Qf,.plain⟩
 | _=>none
theorem zY(f:FuncId)(cf:CF)(h:Ek f=some cf):∃t,aE Tryz.prog t f=some cf:=by
 unfold Ek at h;split at h
 .cases h;exact⟨[0,1,2,3,9],kR⟩
 .cases h;exact⟨[0,1,2,4,5,17],kR⟩
 .cases h;exact⟨[0,1,2,3,4,5,6,8,16,17,24,25,28,29],kR⟩
 .cases h;exact⟨[0,1,2,3,6],kR⟩
 .cases h;exact⟨[0,1,2,3,6],kR⟩
 .cases h;exact⟨[0,1,2,3,6,7,8,40],kR⟩
 .cases h;exact⟨[0,1,2,3,6,7,8,10,16,18],kR⟩
 .cases h;exact⟨[0,1,2,3,5,6,7,10,14,16,20,22,23,24,27,28,34,35,36,38,39,45],kR⟩
 .exact⟨_,h⟩
 .cases h;exact⟨[0,2,3,4,5,6,10,12,19],kR⟩
 .cases h;exact⟨[0,2,3,4,5,6,8,10,18,34,43,44,48,49,53,54,55,59,60,63,66,67,78,79,80,84,86,89,92,93],kR⟩
 .cases h;exact⟨[0,1,2,3],kR⟩
 .cases h;exact⟨[0,1,4,5,6,7,8,9,10,11,12,13,14,18,20,48,73],kR⟩
 .cases h;exact⟨[0,1,2,3,6,7,8,9,10,12,53],kR⟩
 .simp at h
noncomputable def Em:FuncId->Option CF
 | 80=>some ⟨3,6,[(.var 3)],Qg,.plain⟩
 | 81=>some ⟨1,3,[(.var 1)],Qh,.plain⟩
 | 82=>some ⟨1,4,[(.var 2),(.var 3)],Qi,.plain⟩
 | 83=>some ⟨2,12,[(.var 2)],Qj,.plain⟩
 | 84=>some ⟨3,8,[(.var 4),(.var 5)],Qk,.plain⟩
 | 85=>some ⟨3,9,[(.var 4)],Ql,.plain⟩
 | 86=>aE Tryz.prog TR 86
 | 87=>aE Tryz.prog TS 87
 | 88=>aE Tryz.prog TT 88
 | 89=>aE Tryz.prog TU 89
 | 94=>some ⟨1,17,[(.var 1)],Qm,.plain⟩
 | 95=>some ⟨3,13,[(.var 4)],Qn,.plain⟩
 | _=>none
theorem zZ(f:FuncId)(cf:CF)(h:Em f=some cf):∃t,aE Tryz.prog t f=some cf:=by
 unfold Em at h;split at h
 .cases h;exact⟨[0,1,2,6,7,8],kR⟩
 .cases h;exact⟨[0,2,3],kR⟩
 .cases h;exact⟨[0,1,2,3],kR⟩
 .cases h;exact⟨[0,1,4,5,6,7,8,12,20,24,25,26],kR⟩
 .cases h;exact⟨[0,1,2,3,6,7,8,9],kR⟩
 .cases h;exact⟨[0,1,2,3,6,8,9,10,13],kR⟩
 .exact⟨_,h⟩
 .exact⟨_,h⟩
 .exact⟨_,h⟩
 .exact⟨_,h⟩
 .cases h;exact⟨[0,2,3,4,5,6,7,10,23,34,35,42,46,47,48,52,53],kR⟩
 .cases h;exact⟨[0,1,2,4,6,7,8,9,22,29,34,47,49],kR⟩
 .simp at h
noncomputable def En:FuncId->Option CF
 | 96=>some ⟨1,4,[(.var 2)],Qo,.plain⟩
 | 97=>some ⟨2,12,[(.var 3)],Qp,.plain⟩
 | 98=>some ⟨2,5,[(.var 4)],Qq,.plain⟩
 | 99=>some ⟨2,7,[(.var 3)],NA,.plain⟩
 | 100=>some ⟨1,12,[(.var 2)],Kc,.plain⟩
 | 101=>some ⟨3,5,[(.var 4)],Kd,.plain⟩
 | 102=>some ⟨2,8,[(.var 3)],Ke,.plain⟩
 | 103=>some ⟨2,4,[(.var 3)],Kf,.plain⟩
 | 104=>some ⟨2,17,[(.var 3),(.var 4)],Kg,.plain⟩
 | 105=>some ⟨2,12,[(.var 3)],EF,.plain⟩
 | 106=>some ⟨1,22,[(.node (.ld 4 true)<|.cons (.var 2) .nil)],Kh,.plain⟩
 | 107=>some ⟨3,25,[(.var 4),(.var 5)],Ki,.plain⟩
 | 108=>some ⟨2,9,[(.var 3)],Kj,.plain⟩
 | 109=>some ⟨1,9,[(.var 2)],Kk,.plain⟩
 | 110=>some ⟨2,4,[(.var 3)],Kl,.plain⟩
 | 111=>some ⟨1,13,[(.var 2)],Km,.plain⟩
 | _=>none
theorem za(f:FuncId)(cf:CF)(h:En f=some cf):∃t,aE Tryz.prog t f=some cf:=by
 unfold En at h;split at h<;>try cases h
 .exact⟨[0,1,2,3],kR⟩
 .exact⟨[0,1,3,4,5,6,13,19,28,50,68,69],kR⟩
 .exact⟨[0,1,2,3,4],kR⟩
 .exact⟨[0,1,3,4,5,7,8],kR⟩
 .exact⟨[0,1,2,23,26,31,34,37,40,43,46,49],kR⟩
 .exact⟨[0,1,2,3,6],kR⟩
 .exact⟨[0,1,2,4,6,7,8,9],kR⟩
 .exact⟨[0,1,2,4],kR⟩
 .exact⟨[0,1,2,4,5,6,7,9,11,13,16,23,24,25,26,27,34],kR⟩
 .exact⟨[0,1,2,4,6,7,9,11,12,13,33,36],kR⟩
 .exact⟨[0,1,2,3,5,6,7,10,14,16,20,22,23,24,27,28,34,35,36,38,39,45],kR⟩
 .exact⟨[0,1,2,3,6,7,8,9,10,11,12,14,26,45,50,51,52,57,60,61,67,71,72,75,77],kR⟩
 .exact⟨[0,1,2,4,6,8,10,11,12],kR⟩
 .exact⟨[0,1,2,3,9,33,37,59,62],kR⟩
 .exact⟨[0,1,2,4],kR⟩
 .exact⟨[0,1,2,3,4,5,6,9,15,22,24,25,30],kR⟩
noncomputable def Eo:FuncId->Option CF
 | 112=>some ⟨4,16,[(.var 5)],Kn,.plain⟩
 | 113=>some ⟨2,7,[(.var 2)],Ko,.plain⟩
 | 114=>some ⟨1,6,[(.var 2),(.var 3)],Kp,.plain⟩
 | 115=>some ⟨3,10,[(.var 4),(.var 5)],Kq,.plain⟩
 | 116=>aE Tryz.prog MK 116
 | 117=>aE Tryz.prog ML 117
 | 118=>aE Tryz.prog MM 118
 | 119=>aE Tryz.prog MN 119
 | 120=>aE Tryz.prog MO 120
 | 121=>aE Tryz.prog MP 121
 | _=>none
theorem zb(f:FuncId)(cf:CF)(h:Eo f=some cf):∃t,aE Tryz.prog t f=some cf:=by
 unfold Eo at h;split at h
 .cases h;exact⟨[0,1,2,3,4,8,9,10,11,21,42,45,46,52,62,63],kR⟩
 .cases h;exact⟨[0,1,4,5,6,8,10],kR⟩
 .cases h;exact⟨[0,1,2,3,5,8],kR⟩
 .cases h;exact⟨[0,1,2,3,6,7,8,11,12,17],kR⟩
 .exact⟨_,h⟩
 .exact⟨_,h⟩
 .exact⟨_,h⟩
 .exact⟨_,h⟩
 .exact⟨_,h⟩
 .exact⟨_,h⟩
 .simp at h
noncomputable def Ep:FuncId->Option CF
 | 128=>some ⟨2,19,[],Kr,.plain⟩
 | 129=>some ⟨3,14,[(.node (.ld 7 true)<|.cons (.var 3) .nil)],Ks,.plain⟩
 | 130=>some ⟨1,2,[(.var 1)],Kt,.plain⟩
 | 131=>some Qy
 | 132=>some ⟨4,4,[],Kv,.plain⟩
 | 133=>some ⟨4,6,[],Kw,.plain⟩
 | 134=>some ⟨3,4,[(.var 3)],Kx,.plain⟩
 | 135=>some ⟨4,4,[],Ky,.plain⟩
 | 136=>some ⟨3,5,[],Kz,.plain⟩
 | 137=>some ⟨3,3,[],LA,.plain⟩
 | 138=>aE Tryz.prog MQ 138
 | 139=>aE Tryz.prog MR 139
 | 140=>aE Tryz.prog MS 140
 | 141=>aE Tryz.prog MT 141
 | 142=>aE Tryz.prog MU 142
 | _=>none
theorem zc(f:FuncId)(cf:CF)(h:Ep f=some cf):∃t,aE Tryz.prog t f=some cf:=by
 unfold Ep at h;split at h
 .cases h;exact⟨[0,1,4,5,6,7,8,10,11,12,15,19,23,24,28,29,30,33,36],kR⟩
 .cases h;exact⟨[0,1,2,6,7,9,13,14,15,18,21,30,35,44],kR⟩
 .cases h;exact⟨[0,2],kR⟩
 .cases h;exact⟨[0,1,4,5,6,7,8,18,30,33,38,45],kR⟩
 .cases h;exact⟨[0,1,2,3],kR⟩
 .cases h;exact⟨[0,1,2,3,8,9],kR⟩
 .cases h;exact⟨[0,1,2,6],kR⟩
 .cases h;exact⟨[0,1,2,3],kR⟩
 .cases h;exact⟨[0,1,2,6,7],kR⟩
 .cases h;exact⟨[0,1,2],kR⟩
 .exact⟨_,h⟩
 .exact⟨_,h⟩
 .exact⟨_,h⟩
 .exact⟨_,h⟩
 .exact⟨_,h⟩
 .simp at h
noncomputable def Er:FuncId->Option CF
 | 144=>aE Tryz.prog MV 144
 | 146=>some ⟨2,29,[(.var 2)],LB,.plain⟩
 | 147=>some ⟨2,20,[(.var 3)],LC,.plain⟩
 | 148=>some ⟨1,3,[(.var 1)],LD,.plain⟩
 | 149=>some ⟨1,3,[(.var 1)],LG,.plain⟩
 | 150=>some ⟨1,7,[(.var 1)],LH,.plain⟩
 | 151=>some ⟨2,8,[(.var 3)],LI,.plain⟩
 | 152=>some ⟨4,19,[(.var 5)],LJ,.plain⟩
 | 153=>some ⟨3,5,[(.var 4)],LK,.plain⟩
 | 154=>some ⟨3,5,[(.var 4)],LL,.plain⟩
 | 155=>some ⟨3,5,[(.var 4)],LM,.plain⟩
 | 156=>some ⟨1,3,[(.var 1)],EG,.plain⟩
 | 157=>some ⟨2,8,[(.var 2)],LN,.plain⟩
 | 158=>some ⟨1,3,[(.var 1)],LO,.plain⟩
 | 159=>some ⟨1,6,[(.var 2)],LP,.plain⟩
 | _=>none
theorem zd(f:FuncId)(cf:CF)(h:Er f=some cf):∃t,aE Tryz.prog t f=some cf:=by
 unfold Er at h;split at h
 .exact⟨_,h⟩
 .cases h;exact⟨[0,1,4,5,6,7,8,9,15,20,22,28,30,51,52,64,75,76,88,99,100,101,106,115,116,136,149,151,152],kR⟩
 .cases h;exact⟨[0,1,3,4,5,6,7,8,9,10,11,15,20,21,36,38,47,121,126,127],kR⟩
 .cases h;exact⟨[0,2,3],kR⟩
 .cases h;exact⟨[0,2,5],kR⟩
 .cases h;exact⟨[0,2,3,5,6,8,14],kR⟩
 .cases h;exact⟨[0,1,2,4,6,7,8,9],kR⟩
 .cases h;exact⟨[0,1,2,3,4,8,9,10,11,15,19,20,21,26,27,28,32,36,37],kR⟩
 .cases h;exact⟨[0,1,2,3,6],kR⟩
 .cases h;exact⟨[0,1,2,3,6],kR⟩
 .cases h;exact⟨[0,1,2,3,6],kR⟩
 .cases h;exact⟨[0,2,3],kR⟩
 .cases h;exact⟨[0,1,4,5,8,10,15,23],kR⟩
 .cases h;exact⟨[0,2,3],kR⟩
 .cases h;exact⟨[0,1,2,3,12,15],kR⟩
 .simp at h
noncomputable def xQ:FuncId->Option CF
 | 160=>some ⟨3,8,[(.var 4)],LQ,.plain⟩
 | 161=>some ⟨1,6,[(.var 2)],LR,.plain⟩
 | 162=>some ⟨3,6,[(.var 4)],LS,.plain⟩
 | 163=>aE Tryz.prog MW 163
 | 164=>aE Tryz.prog MX 164
 | 165=>aE Tryz.prog MY 165
 | 166=>aE Tryz.prog MZ 166
 | 167=>aE Tryz.prog M0 167
 | 168=>aE Tryz.prog M1 168
 | 169=>aE Tryz.prog M2 169
 | 170=>aE Tryz.prog M3 170
 | 171=>aE Tryz.prog M4 171
 | 172=>aE Tryz.prog M5 172
 | _=>none
theorem xM(f:FuncId)(cf:CF)(h:xQ f=some cf):∃t,aE Tryz.prog t f=some cf:=by
 unfold xQ at h;split at h
 .cases h;exact⟨[0,1,2,3,6,7,16,20],kR⟩
 .cases h;exact⟨[0,1,2,3,6,9],kR⟩
 .cases h;exact⟨[0,1,2,3,6,7],kR⟩
 .exact⟨_,h⟩
 .exact⟨_,h⟩
 .exact⟨_,h⟩
 .exact⟨_,h⟩
 .exact⟨_,h⟩
 .exact⟨_,h⟩
 .exact⟨_,h⟩
 .exact⟨_,h⟩
 .exact⟨_,h⟩
 .exact⟨_,h⟩
 .simp at h
noncomputable def xR:FuncId->Option CF
 | 176=>some ⟨3,9,[(.var 3)],LU,.plain⟩
 | 177=>some ⟨2,6,[(.var 3)],LV,.plain⟩
 | 178=>some ⟨2,11,[(.var 2)],LW,.plain⟩
 | 179=>some ⟨2,10,[(.var 2),(.var 3)],LX,.plain⟩
 | 180=>some ⟨3,10,[],LY,.plain⟩
 | 181=>some ⟨2,4,[],LZ,.plain⟩
 | 182=>aE Tryz.prog M6 182
 | 183=>aE Tryz.prog M7 183
 | 184=>aE Tryz.prog M8 184
 | 185=>aE Tryz.prog M9 185
 | 187=>aE Tryz.prog Ma 187
 | 188=>aE Tryz.prog Mb 188
 | 189=>some ⟨1,4,[(.var 1)],L0,.plain⟩
 | 190=>some ⟨2,9,[(.var 2)],L5,.plain⟩
 | 191=>some ⟨2,7,[(.var 3)],L6,.plain⟩
 | _=>none
theorem xN(f:FuncId)(cf:CF)(h:xR f=some cf):∃t,aE Tryz.prog t f=some cf:=by
 unfold xR at h;split at h
 .cases h;exact⟨[0,1,2,6,12,20,28,34,37],kR⟩
 .cases h;exact⟨[0,1,3,4,6,17],kR⟩
 .cases h;exact⟨[0,1,4,5,6,7,8,9,10,11,26],kR⟩
 .cases h;exact⟨[0,1,4,5,6,7,8,9,15,25],kR⟩
 .cases h;exact⟨[0,1,2,4,6,7,8,9,11,12],kR⟩
 .cases h;exact⟨[0,1,3,4],kR⟩
 .exact⟨_,h⟩
 .exact⟨_,h⟩
 .exact⟨_,h⟩
 .exact⟨_,h⟩
 .exact⟨_,h⟩
 .exact⟨_,h⟩
 .cases h;exact⟨[0,2,5,7],kR⟩
 .cases h;exact⟨[0,1,4,6,8,10,11,13,15],kR⟩
 .cases h;exact⟨[0,1,2,4,5,6,19],kR⟩
 .simp at h
noncomputable def xS:FuncId->Option CF
 | 192=>some ⟨2,7,[(.var 3)],L7,.plain⟩
 | 193=>aE Tryz.prog Mc 193
 | 194=>some ⟨2,25,[(.var 2)],L8,.plain⟩
 | 195=>some ⟨5,30,[(.var 5)],L9,.plain⟩
 | 196=>some ⟨2,14,[(.var 2)],La,.plain⟩
 | 197=>some ⟨2,16,[(.var 2)],Lb,.plain⟩
 | 198=>some ⟨1,3,[(.var 2)],Lc,.plain⟩
 | 199=>some ⟨2,7,[(.var 2)],Ld,.plain⟩
 | 200=>aE Tryz.prog Md 200
 | 201=>some ⟨2,12,[(.var 2),(.var 3)],Le,.plain⟩
 | 202=>some ⟨4,4,[],Lf,.plain⟩
 | 203=>aE Tryz.prog Me 203
 | 204=>some ⟨1,2,[(.var 1)],Lg,.plain⟩
 | 205=>aE Tryz.prog Mf 205
 | 206=>some ⟨2,12,[(.node (.ld 7 true)<|.cons (.var 2) .nil)],Lh,.plain⟩
 | 207=>some ⟨3,21,[(.var 4)],Li,.plain⟩
 | _=>none
theorem xO(f:FuncId)(cf:CF)(h:xS f=some cf):∃t,aE Tryz.prog t f=some cf:=by
 unfold xS at h;split at h
 .cases h;exact⟨[0,1,2,4,5,6,13],kR⟩
 .exact⟨_,h⟩
 .cases h;exact⟨[0,1,4,5,6,7,8,21,38,45,46,47,54,55,59,63,65,69,80,87,88,89,92,93,94],kR⟩
 .cases h;exact⟨[0,1,2,3,4,10,11,12,14,16,18,19,23,29,33,34,35,38,43,44,45,48,53,54,55,58,69,80,81,82],kR⟩
 .cases h;exact⟨[0,1,4,5,6,7,11,21,24,34,42,51,52,53],kR⟩
 .cases h;exact⟨[0,1,4,5,6,7,8,9,12,21,22,23,57,61,62,63],kR⟩
 .cases h;exact⟨[0,1,2],kR⟩
 .cases h;exact⟨[0,1,4,5,6,8,10],kR⟩
 .exact⟨_,h⟩
 .cases h;exact⟨[0,1,4,5,6,7,8,9,10,11,12,13],kR⟩
 .cases h;exact⟨[0,1,2,3],kR⟩
 .exact⟨_,h⟩
 .cases h;exact⟨[0,2],kR⟩
 .exact⟨_,h⟩
 .cases h;exact⟨[0,1,4,5,6,7,29,42,45,46,47,48],kR⟩
 .cases h;exact⟨[0,1,2,4,6,7,8,9,10,11,15,18,28,29,51,65,72,73,82,87,88],kR⟩
 .simp at h
noncomputable def xU:FuncId->Option CF
 | 208=>some ⟨5,7,[(.node (.ld 7 true)<|.cons (.var 5) .nil)],Lj,.plain⟩
 | 209=>aE Tryz.prog Mg 209
 | 210=>some ⟨4,5,[(.node (.ld 7 true)<|.cons (.var 4) .nil)],Lk,.plain⟩
 | 211=>some ⟨1,2,[(.var 1)],Ll,.plain⟩
 | 212=>aE Tryz.prog Mh 212
 | _=>none
theorem xP(f:FuncId)(cf:CF)(h:xU f=some cf):∃t,aE Tryz.prog t f=some cf:=by
 unfold xU at h;split at h
 .cases h;exact⟨[0,1,2,3,4,10,11],kR⟩
 .exact⟨_,h⟩
 .cases h;exact⟨[0,1,2,3,8],kR⟩
 .cases h;exact⟨[0,2],kR⟩
 .exact⟨_,h⟩
 .simp at h
theorem Jp(f:FuncId)(cf:CF)(h:Eg f=some cf):aL cf=true:=by
 unfold Eg at h;split at h
 .cases h;kernel_rfl
 .have:=Um;rw[h]at this;exact this
 .cases h;kernel_rfl
 .cases h;kernel_rfl
 .have:=Un;rw[h]at this;exact this
 .simp at h
theorem Jq(f:FuncId)(cf:CF)(h:Eh f=some cf):aL cf=true:=by
 unfold Eh at h;split at h
 .have:=Uo;rw[h]at this;exact this
 .cases h;kernel_rfl
 .cases h;kernel_rfl
 .cases h;kernel_rfl
 .have:=Up;rw[h]at this;exact this
 .cases h;kernel_rfl
 .have:=Uq;rw[h]at this;exact this
 .cases h;kernel_rfl
 .cases h;kernel_rfl
 .cases h;kernel_rfl
 .cases h;kernel_rfl
 .cases h;kernel_rfl
 .simp at h
theorem Jr(f:FuncId)(cf:CF)(h:Ei f=some cf):aL cf=true:=by
 unfold Ei at h;split at h
 .cases h;kernel_rfl
 .cases h;kernel_rfl
 .cases h;kernel_rfl
 .cases h;kernel_rfl
 .have:=Ur;rw[h]at this;exact this
 .cases h;kernel_rfl
 .cases h;kernel_rfl
 .cases h;kernel_rfl
 .cases h;kernel_rfl
 .cases h;kernel_rfl
 .cases h;kernel_rfl
 .cases h;kernel_rfl
 .have:=Us;rw[h]at this;exact this
 .have:=Ut;rw[h]at this;exact this
 .simp at h
theorem Js(f:FuncId)(cf:CF)(h:Ej f=some cf):aL cf=true:=by
 unfold Ej at h;split at h
 .cases h;kernel_rfl
 .cases h;kernel_rfl
 .cases h;kernel_rfl
 .cases h;kernel_rfl
 .have:=Uu;rw[h]at this;exact this
 .cases h;kernel_rfl
 .have:=Uv;rw[h]at this;exact this
 .cases h;kernel_rfl
 .cases h;kernel_rfl
 .cases h;kernel_rfl
 .cases h;kernel_rfl
 .cases h;kernel_rfl
 .cases h;kernel_rfl
 .cases h;kernel_rfl
 .cases h;kernel_rfl
 .simp at h
theorem Jt(f:FuncId)(cf:CF)(h:Ek f=some cf):aL cf=true:=by
 unfold Ek at h;split at h
 .cases h;kernel_rfl
 .cases h;kernel_rfl
 .cases h;kernel_rfl
 .cases h;kernel_rfl
 .cases h;kernel_rfl
 .cases h;kernel_rfl
 .cases h;kernel_rfl
 .cases h;kernel_rfl
 .have:=Uw;rw[h]at this;exact this
 .cases h;kernel_rfl
 .cases h;kernel_rfl
 .cases h;kernel_rfl
 .cases h;kernel_rfl
 .cases h;kernel_rfl
 .simp at h
theorem Ju(f:FuncId)(cf:CF)(h:Em f=some cf):aL cf=true:=by
 unfold Em at h;split at h
 .cases h;kernel_rfl
 .cases h;kernel_rfl
 .cases h;kernel_rfl
 .cases h;kernel_rfl
 .cases h;kernel_rfl
 .cases h;kernel_rfl
 .have:=Ux;rw[h]at this;exact this
 .have:=Uy;rw[h]at this;exact this
 .have:=Uz;rw[h]at this;exact this
 .have:=VA;rw[h]at this;exact this
 .cases h;kernel_rfl
 .cases h;kernel_rfl
 .simp at h
theorem Jv(f:FuncId)(cf:CF)(h:En f=some cf):aL cf=true:=by unfold En at h;split at h<;>first|(cases h;exact kR)|simp at h
theorem Jw(f:FuncId)(cf:CF)(h:Eo f=some cf):aL cf=true:=by
 unfold Eo at h;split at h
 .cases h;kernel_rfl
 .cases h;kernel_rfl
 .cases h;kernel_rfl
 .cases h;kernel_rfl
 .have:=Rt;rw[h]at this;exact this
 .have:=Ru;rw[h]at this;exact this
 .have:=Rv;rw[h]at this;exact this
 .have:=Rw;rw[h]at this;exact this
 .have:=Rx;rw[h]at this;exact this
 .have:=Ry;rw[h]at this;exact this
 .simp at h
theorem Jx(f:FuncId)(cf:CF)(h:Ep f=some cf):aL cf=true:=by
 unfold Ep at h;split at h
 .cases h;kernel_rfl
 .cases h;kernel_rfl
 .cases h;kernel_rfl
 .cases h;kernel_rfl
 .cases h;kernel_rfl
 .cases h;kernel_rfl
 .cases h;kernel_rfl
 .cases h;kernel_rfl
 .cases h;kernel_rfl
 .cases h;kernel_rfl
 .have:=Rz;rw[h]at this;exact this
 .have:=SA;rw[h]at this;exact this
 .have:=SB;rw[h]at this;exact this
 .have:=SD;rw[h]at this;exact this
 .have:=SE;rw[h]at this;exact this
 .simp at h
theorem Jy(f:FuncId)(cf:CF)(h:Er f=some cf):aL cf=true:=by
 unfold Er at h;split at h
 .have:=SF;rw[h]at this;exact this
 .cases h;kernel_rfl
 .cases h;kernel_rfl
 .cases h;kernel_rfl
 .cases h;kernel_rfl
 .cases h;kernel_rfl
 .cases h;kernel_rfl
 .cases h;kernel_rfl
 .cases h;kernel_rfl
 .cases h;kernel_rfl
 .cases h;kernel_rfl
 .cases h;kernel_rfl
 .cases h;kernel_rfl
 .cases h;kernel_rfl
 .cases h;kernel_rfl
 .simp at h
theorem G8(f:FuncId)(cf:CF)(h:xQ f=some cf):aL cf=true:=by
 unfold xQ at h;split at h
 .cases h;kernel_rfl
 .cases h;kernel_rfl
 .cases h;kernel_rfl
 .have:=SG;rw[h]at this;exact this
 .have:=SH;rw[h]at this;exact this
 .have:=SI;rw[h]at this;exact this
 .have:=SJ;rw[h]at this;exact this
 .have:=SK;rw[h]at this;exact this
 .have:=SL;rw[h]at this;exact this
 .have:=SM;rw[h]at this;exact this
 .have:=SN;rw[h]at this;exact this
 .have:=SO;rw[h]at this;exact this
 .have:=SP;rw[h]at this;exact this
 .simp at h
theorem G9(f:FuncId)(cf:CF)(h:xR f=some cf):aL cf=true:=by
 unfold xR at h;split at h
 .cases h;kernel_rfl
 .cases h;kernel_rfl
 .cases h;kernel_rfl
 .cases h;kernel_rfl
 .cases h;kernel_rfl
 .cases h;kernel_rfl
 .have:=SQ;rw[h]at this;exact this
 .have:=SR;rw[h]at this;exact this
 .have:=SS;rw[h]at this;exact this
 .have:=SU;rw[h]at this;exact this
 .have:=SV;rw[h]at this;exact this
 .have:=SW;rw[h]at this;exact this
 .cases h;kernel_rfl
 .cases h;kernel_rfl
 .cases h;kernel_rfl
 .simp at h
theorem Ga(f:FuncId)(cf:CF)(h:xS f=some cf):aL cf=true:=by
 unfold xS at h;split at h
 .cases h;kernel_rfl
 .have:=SX;rw[h]at this;exact this
 .cases h;kernel_rfl
 .cases h;kernel_rfl
 .cases h;kernel_rfl
 .cases h;kernel_rfl
 .cases h;kernel_rfl
 .cases h;kernel_rfl
 .have:=SY;rw[h]at this;exact this
 .cases h;kernel_rfl
 .cases h;kernel_rfl
 .have:=SZ;rw[h]at this;exact this
 .cases h;kernel_rfl
 .have:=S8;rw[h]at this;exact this
 .cases h;kernel_rfl
 .cases h;kernel_rfl
 .simp at h
theorem Gb(f:FuncId)(cf:CF)(h:xU f=some cf):aL cf=true:=by
 unfold xU at h;split at h
 .cases h;kernel_rfl
 .have:=S9;rw[h]at this;exact this
 .cases h;kernel_rfl
 .cases h;kernel_rfl
 .have:=Sa;rw[h]at this;exact this
 .simp at h
noncomputable def cp(f:FuncId):Option CF:=match f/16 with
 | 0=>Eg f
 | 1=>Eh f
 | 2=>Ei f
 | 3=>Ej f
 | 4=>Ek f
 | 5=>Em f
 | 6=>En f
 | 7=>Eo f
 | 8=>Ep f
 | 9=>Er f
 | 10=>xQ f
 | 11=>xR f
 | 12=>xS f
 | 13=>xU f
 | _=>none
theorem Ea:nc Tryz.prog cp:=by
 intro f cf h;unfold cp at h;split at h
 .exact zU f cf h
 .exact zV f cf h
 .exact zW f cf h
 .exact zX f cf h
 .exact zY f cf h
 .exact zZ f cf h
 .exact za f cf h
 .exact zb f cf h
 .exact zc f cf h
 .exact zd f cf h
 .exact xM f cf h
 .exact xN f cf h
 .exact xO f cf h
 .exact xP f cf h
 .simp at h
theorem mT(f:FuncId)(cf:CF)(h:cp f=some cf):aL cf=true:=by
 unfold cp at h;split at h
 .exact Jp f cf h
 .exact Jq f cf h
 .exact Jr f cf h
 .exact Js f cf h
 .exact Jt f cf h
 .exact Ju f cf h
 .exact Jv f cf h
 .exact Jw f cf h
 .exact Jx f cf h
 .exact Jy f cf h
 .exact G8 f cf h
 .exact G9 f cf h
 .exact Ga f cf h
 .exact Gb f cf h
 .simp at h
theorem mixed:Tryz.prog.follows .mixedOrders=true:=by kernel_rfl
theorem Rl(base n:Nat):RunOK Tryz.prog base Tryz.prog.globals.size<|run cp n:=sound mixed Ea base n
end Go.Proofs.YtmnlgdpdgjbfgaaGreat
