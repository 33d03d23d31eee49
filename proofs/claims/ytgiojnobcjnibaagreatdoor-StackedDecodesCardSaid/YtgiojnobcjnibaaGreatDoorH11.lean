/- Lemmas. -/
import Derived.Test.YtgiojnobcjnibaaGreatDoorH8
import Derived.Test.YtgiojnobcjnibaaGreatDoorProg
import Derived.KernelRfl
set_option linter.all false
theorem Wf{P:Prop}(h:P:=by kernel_rfl):P:=h
def Wa{p:Prop}(h:p):False\/p:=.inr h
theorem Wb{p:Prop}(h:False\/p):p:=h.resolve_left id
namespace Go.Proofs.YtgiojnobcjnibaaGreatDoor
open Go.Abs
def Ky:ByteArray:=⟨#[0,1,2,2,3,3,3,3,4,4,4,4,4,4,4,4,5,5,5,5,5,5,5,5,5,5,5,5,5,5,5,5,6,6,6,6,6,6,6,6,6,6,6,6,6,6,6,6,6,6,6,6,6,6,6,6,6,6,6,6,6,6,6,6,7,7,7,7,7,7,7,7,7,7,7,7,7,7,7,7,7,7,7,7,7,7,7,7,7,7,7,7,7,7,7,7,7,7,7,7,7,7,7,7,7,7,7,7,7,7,7,7,7,7,7,7,7,7,7,7,7,7,7,7,7,7,7,7,8,8,8,8,8,8,8,8,8,8,8,8,8,8,8,8,8,8,8,8,8,8,8,8,8,8,8,8,8,8,8,8,8,8,8,8,8,8,8,8,8,8,8,8,8,8,8,8,8,8,8,8,8,8,8,8,8,8,8,8,8,8,8,8,8,8,8,8,8,8,8,8,8,8,8,8,8,8,8,8,8,8,8,8,8,8,8,8,8,8,8,8,8,8,8,8,8,8,8,8,8,8,8,8,8,8,8,8,8,8,8,8,8,8,8,8,8,8,8,8,8,8,8,8,8,8,8,8]⟩
namespace K
def x(n:Nat):E:=.var n
def i(n:Int):E:=.cst<|.int .i64 n
def c(a b:E):E:=.cons a b
def c1(a:E):E:=.cons a .nil
def c2(a b:E):E:=.cons a<|.cons b .nil
def c3(a b c:E):E:=.cons a<|.cons b<|.cons c .nil
def n1(o:LOp)(a:E):E:=.node o<|.cons a .nil
def n2(o:LOp)(a b:E):E:=.node o<|.cons a<|.cons b .nil
def b(o:BinOp)(a b:E):E:=.node (.bin o)<|.cons a<|.cons b .nil
def ld(a:E):E:=.node (.ld 1 false)<|.cons a .nil
def fa(n:Nat)(a:E):E:=.node (.fAddr n)<|.cons a .nil
def ix(n:Nat)(a:E):E:=.node (.ext n)<|.cons a .nil
def p(a b c:E):E:=.pick a b c
def h(d:Nat)(o:HOp)(a:E):Stm:=.hv [] [] [] (some d) o a
def cl(d f:Nat)(a:E):Stm:=.hv [] [] [] (some d) (.call false)<|.cons (.cst<|.func (.func f) #[] #[]) a
def s(l:List<|Nat×E):Stm:=.sets l []
def q(a b:Stm):Stm:=.seq a b
def e:Stm:=.skip
def r:Stm:=.ret
def z:Value:=.int .i64 0
def u:Value:=.slice none 0 0
def f:E:=.cst<|.bool false
def t:E:=.cst<|.bool true
def hh(l:List<|Nat×E)(d:Nat)(o:HOp)(a:E):Stm:=.hv l [] [] (some d) o a
def ia(n:Nat)(a b:E):E:=.node (.iAddr n)<|.cons a<|.cons b .nil
def ln(a:E):E:=.node .len<|.cons a .nil
def bk(i:Nat)(a:Stm):Stm:=.block i a
def lt(n:Nat)(a:E):E:=.node (.ld n true)<|.cons a .nil
def xt(i:Nat):Stm:=.exit i
def lo(a:Stm):Stm:=.loop a
def ad(a b:E):E:=.node (.bin .add)<|.cons a<|.cons b .nil
instance (n:Nat):OfNat E n:=⟨.var n⟩
instance:HPow Stm Stm Stm:=⟨.seq⟩
def xv(n:Nat):(OfNat.ofNat n:E)=.var (@OfNat.ofNat Nat n<|instOfNatNat n):=rfl
def xq(a b:Stm):a^b=.seq a b:=rfl
def qs(l:List<|Nat×E)(a:Stm):Stm:=.seq (.sets l []) a
def lf(n:Nat)(a:E):E:=.node (.ld 1 false)<|.cons (.node (.fAddr n)<|.cons a .nil) .nil
def k(c:E)(a b:Stm):Stm:=.cond c a b
def kq(c:E)(a:Stm):Stm:=.cond c a .skip
def fn(n:Nat):E:=.cst<|.func (.func n) #[] #[]
def nk(n:Nat):E:=.node .nilChk<|.cons (.var n) .nil
def w(n:Nat)(a b:E):Stm:=.hv [] [] [] none (.st n)<|.cons a<|.cons b .nil
def v(o:HOp)(a:E):Stm:=.hv [] [] [] none o a
end K
def kB:=zzi @K.x.eq_1<|zzi @K.i.eq_1<|zzi @K.c.eq_1<|zzi @K.c1.eq_1<|zzi @K.c2.eq_1<|zzi @K.c3.eq_1<|zzi @K.n1.eq_1<|zzi @K.n2.eq_1<|zzi @K.b.eq_1<|zzi @K.ld.eq_1<|zzi @K.fa.eq_1<|zzi @K.ix.eq_1<|zzi @K.p.eq_1<|zzi @K.h.eq_1<|zzi @K.cl.eq_1<|zzi @K.s.eq_1<|zzi @K.q.eq_1<|zzi @K.e.eq_1<|zzi @K.r.eq_1<|zzi @K.z.eq_1<|zzi @K.u.eq_1<|zzi @K.f.eq_1<|zzi @K.t.eq_1<|zzi @K.qs.eq_1<|zzi @K.lf.eq_1<|zzi @K.k.eq_1<|zzi @K.kq.eq_1<|zzi @K.fn.eq_1<|zzi @K.nk.eq_1<|zzi @K.w.eq_1<|zzi @K.v.eq_1<|zzi @K.hh.eq_1<|zzi @K.ia.eq_1<|zzi @K.ln.eq_1<|zzi @K.bk.eq_1<|zzi @K.lt.eq_1<|zzi @K.xt.eq_1<|zzi @K.lo.eq_1<|zzi @K.ad.eq_1<|zzi @frm.eq_1<|zzi @frm.eq_2<|zzi @frz.eq_1<|zzi @frz.eq_2<|zzi @K.xv @K.xq
section
open K
def bd6:Stm:=
 (h 1 .box (c1 0)^s [(2,f)])^kq (b .gtr (ln<|lf 2 1)<|i 40000) ((cl 9 9 .nil^s [(2,9)])^r)^(cl 10 20 (c1<|lt 3 1)^s [(5,ix 2 10),(4,ix 1 10),(3,ix 0
 10)])^(cl 11 21 (c1<|lt 3 1)^s [(8,ix 2 11),(7,ix 1 11),(6,ix 0 11)])^(Stm.hv [(12,p (p (b .eql (n1 .b2s 3)<|n1 .b2s 6) (b .eql 4 7) f) (b .eql 5 8)
 f)] [] [(p (p (b .eql (n1 .b2s 3)<|n1 .b2s 6) (b .eql 4 7) f) (b .eql 5 8) f,true)] (some 13) (.call false) (c1<|fn 9)^s [(2,p 12 13 f)])^r
def cf6:CF:=⟨1,14,[(.var 2)],bd6,.plain⟩
def tr9:XN:=[0,1,2,3,4,5,6,7,8,9,10,11,12,13,15,19,20,25,30,31,33,34,35,39,61,62,63]
def Uj:Stm:=
 s [(3,i 0),(2,.cst u)]^kq (p (p (p (p (b .neq 0<|i 0) (b .neq 0<|i 3) f) (b .neq 0<|i 6) f) t<|b .lss 1<|i 0) t<|b .gtr 1<|i 928) (s [(3,i 3),(2,
 .cst u)]^r)^(cl 4 23 .nil^cl 5 24 (c3 4 0 1)^s [(3,i 0),(2,5)])^r
def Uk:Stm:=
 s [(3,i 0),(2,i 0),(1,i 0)]^(cl 4 23 .nil^cl 5 27 (c2 4 0)^s [(3,ix 2 5),(2,ix 1 5),(1,ix 0 5)])^r
def Ul:Stm:=
 s [(2,f)]^kq (b .neq (ln 0)<|ln 1) (s [(2,f)]^r)^(s [(3,i 0)]^bk 0 (lo<|k (b .lss 3<|ln 0) e (xt 0)^bk 1 (kq (b .neq (ld<|ia 1 0 3)<|ld<|ia 1 1 3) (s
 [(2,f)]^r))^s [(3,ad 3<|i 1)]))^s [(2,t)]^r
def Um:Stm:=
 s [(6,i 0),(5,i 0),(4,i 0)]^kq (p (p (p (p (p (b .lss 1<|i 3) t<|b .gtr 1<|i 90) t<|b .lss 2<|i 1) t<|b .gtr 2<|i 30) t<|b .lss 0<|i 0) t (b .geq
 0 1)) (s [(6,i 3),(5,i 0),(4,i 0)]^r)^kq (p (b .lss 3<|i 0) t<|b .gtr 3<|i 8) (s [(6,i 15),(5,i 0),(4,i 0)]^r)^s [(7,b .mul (i 30)<|b .quo 0 (i
 3))]^s [(8,ad 7<|b .quo (b .sub 1<|i 1)<|i 3)]^s [(9,ad (ad 7<|b .mul (i 3) 3)<|b .rem (b .sub 1<|i 1)<|i 3)]^s [(10,b .sub (ad 7 2)<|i 1)]^(s
 [(11,b .rem 0<|i 3)]^bk 0 (k (b .eql 11<|i 0) (s [(6,i 0),(5,10),(4,8)]^r)<|kq (b .eql 11<|i 1)<|s [(6,i 0),(5,8),(4,9)]^r))^s [(6,i 0),(5,
 9),(4,10)]^r
def Vh:XN:=[0,1,3,4,5,6,7,8,9,10,11,12,33,39,42,45,69,71,73,77,80,83,84,85,89,90,91,95,99,105,106,108,110,114]
def R5:Stm:=
 (h 1 .box (c1 0)^s [(4,i 0),(3,i 0),(2,.cst u)])^(cl 23 43 (c1<|lt 3 1)^kq (n1 (.un .not) 23) (s [(4,i 1),(3,i 0),(2,.cst u)]^r))^s [(5,b .quo (b
 .sub (lf 0 1)<|i 69)<|i 17)]^kq (p (p (b .lss 5<|i 1) t<|b .gtr 5<|i 30) t<|b .neq (lf 0 1)<|ad (b .mul (i 17) 5)<|i 69) (s [(4,i 23),(3,i 0),(2,
 .cst u)]^r)^(cl 24 23 .nil^s [(6,24)])^(cl 25 44 .nil^cl 26 45 .nil^s [(8,26),(7,25)])^(h 27 (.mkSl [.nilIface]) (c2 (lf 1 1)<|lf 1 1)^s [(9,27)])^(s
 [(29,i 0),(28,lf 1 1)]^bk 0 (lo<|k (b .lss 29 28) e (xt 0)^bk 1 (s [(10,29)]^hh [(31,10),(30,9)] 32 (.call false) (c (fn 46)<|c 6<|c3 (.node (.sl 1
 true true false)<|c3 (lf 2 1) (b .mul 10<|lf 0 1)<|b .mul (ad 10<|i 1)<|lf 0 1) 7 8)^w 1 (ia 1 30 31) 32)^s [(29,ad 29<|i 1)]))^(cl 33 47 (c2 9 5)^s
 [(13,ix 2 33),(12,ix 1 33),(11,ix 0 33)])^kq (b .neq 13<|i 0) (s [(4,13),(3,i 0),(2,.cst u)]^r)^(cl 34 48 (c 6<|c3 9 11 5)^s [(15,ix 1 34),(14,
 ix 0 34)])^(cl 35 33 (c1 12)^hh [(37,ix 1 35),(36,ix 0 35)] 16 (.alloc [z,z,z,z,z]) .nil^w 5 16 36^s [(13,37)])^kq (b .neq 13<|i 0) (s [(4,13),(3,
 i 0),(2,.cst u)]^r)^(cl 38 49 (c3 (lt 5 16) 14 15)^hh [(40,ix 1 38),(39,ix 0 38)] 17 (.alloc [u,u]) .nil^w 2 17 39^s [(13,40)])^kq (b .neq 13<|i 0) (s
 [(4,13),(3,i 0),(2,.cst u)]^r)^s [(18,ld<|ia 1 (lf 0 17)<|i 0)]^(Stm.hv [(43,p (b .lss 18<|i 1) (.cst<|.tuple #[])<|b .mul 11 5),(42,p (b .lss
 18<|i 1) (.cst<|.tuple #[]) 18),(41,b .lss 18<|i 1)] [] [(b .lss 18<|i 1,false)] (some 44) (.call false) (c2 (fn 32) 12)^kq (p 41 t<|b .gtr 42 (b .sub
 43 44)) (s [(4,i 9),(3,i 0),(2,.cst u)]^r))^(cl 45 50 (c1<|.node (.sl 1 true true false)<|c3 (lf 0 17) (i 1) 18)^s [(13,ix 1 45),(19,ix 0 45)])^kq
 (b .neq 13<|i 0) (s [(4,13),(3,i 0),(2,.cst u)]^r)^s [(20,ln 15)]^(s [(48,i 0),(47,ln<|lf 1 17),(46,lf 1 17)]^bk 2 (lo<|k (b .lss 48 47) e (xt
 2)^bk 3 (s [(21,ld<|ia 1 46 48)]^(cl 49 51 (c2 15 21)^Stm.sets [(22,ix 1 49)] [ix 0 49])^kq (n1 (.un .not) 22) (s [(20,ad 20<|i 1)]))^s [(48,ad 48 (i
 1))]))^s [(4,i 0),(3,20),(2,19)]^r
def R6:Stm:=
 (h 1 .box (c1 0)^s [(4,i 0),(3,i 0),(2,.cst u)])^(cl 22 52 (c1<|lt 3 1)^kq (n1 (.un .not) 22) (s [(4,i 1),(3,i 0),(2,.cst u)]^r))^s [(5,b .quo (b
 .sub (lf 0 1)<|i 69)<|i 17)]^kq (p (p (b .lss (lf 0 1)<|i 86) t<|b .neq (b .rem (lf 0 1)<|i 17)<|i 1) t<|b .gtr 5<|i 30) (s [(4,i 23),(3,i 0),(2,
 .cst u)]^r)^(cl 23 26 .nil^h 6 (.alloc<|List.replicate 1458 z) .nil^w 1458 6 23)^(cl 24 53 (c2 (lt 1458 6)<|lt 3 1)^hh [(26,ix 1 24),(25,ix 0 24)] 8
 (.alloc<|List.replicate 60 z) .nil^Stm.hv [(7,25)] [] [] none (.st 60) (c2 8 26))^(hh [(28,lt 30<|fa 30 8)] 27 (.callK 1) (c3 (fa 30 8) (fn 54)<|lt 30 (fa
 0 8))^h 29 .callC (c2 (fn 54) 28)^s [(10,29),(9,27)])^kq (p (b .lss 9<|i 0) t<|b .lss 10<|i 0) (s [(4,i 21),(3,i 0),(2,.cst u)]^r)^s [(12,b .quo
 10<|i 3),(11,ad (ad (b .mul (i 3) 9)<|b .rem 10<|i 3)<|i 1)]^(Stm.hv [(31,p (p (p (b .lss 11<|i 3) t<|b .gtr 12<|i 8) t<|b .gtr (b .mul 11 5) (i
 928)) (.cst<|.tuple #[])<|b .mul 11 5),(30,p (p (b .lss 11<|i 3) t<|b .gtr 12<|i 8) t<|b .gtr (b .mul 11 5)<|i 928)] [] [(p (p (b .lss 11<|i 3) t
 (b .gtr 12<|i 8)) t<|b .gtr (b .mul 11 5)<|i 928,false)] (some 32) (.call false) (c2 (fn 37) 12)^kq (p 30 t<|b .lss 31<|ad (n1 (.fld 3 1 false) 32) (i
 1)) (s [(4,i 21),(3,i 0),(2,.cst u)]^r))^(cl 33 55 (c (lt 1458 6)<|c3 7 11 5)^s [(14,ix 1 33),(13,ix 0 33)])^(cl 34 37 (c1 12)^cl 35 56 (c3 34 13
 14)^hh [(37,ix 1 35),(36,ix 0 35)] 15 (.alloc [u,u]) .nil^w 2 15 36^s [(16,37)])^kq (b .neq 16<|i 0) (s [(4,16),(3,i 0),(2,.cst u)]^r)^s [(17,ln
 14)]^(s [(18,i 0)]^bk 0 (lo<|k (b .lss 18<|ln 13) e (xt 0)^bk 1 (Stm.hv [(38,b .neq (ld<|ia 1 (lf 0 15) 18)<|ld<|ia 1 13 18)] [] [(b .neq (ld<|ia 1 (lf
 0 15) 18)<|ld<|ia 1 13 18,true)] (some 39) .callC (c3 (fn 57) 14 18)^kq (p 38 (n1 (.un .not) 39) f) (s [(17,ad 17<|i 1)]))^s [(18,ad 18<|i 1)]))^s
 [(19,ld<|ia 1 (lf 0 15)<|i 0)]^(Stm.hv [(42,p (b .lss 19<|i 1) (.cst<|.tuple #[])<|b .mul 11 5),(41,p (b .lss 19<|i 1) (.cst<|.tuple #[]) 19),(40,
 b .lss 19<|i 1)] [] [(b .lss 19<|i 1,false)] (some 43) (.call false) (c2 (fn 37) 12)^kq (p 40 t<|b .gtr 41<|b .sub 42<|n1 (.fld 3 1 false) 43) (s [(4,i
 9),(3,i 0),(2,.cst u)]^r))^(cl 44 58 (c1<|.node (.sl 1 true true false)<|c3 (lf 0 15) (i 1) 19)^s [(21,ix 1 44),(20,ix 0 44)])^kq (b .neq 21<|i 0)
 (s [(4,21),(3,i 0),(2,.cst u)]^r)^s [(4,i 0),(3,17),(2,20)]^r
def O2:Stm:=
 s [(0,.cst<|.pointer none)]^h 1 (.alloc<|List.replicate 1458 z) .nil^w 1 (n2 (.iAddrA 9 1) (n2 (.iAddrA 18 9) (n2 (.iAddrA 9 162) 1<|i 8)<|i 0)<|i 0) (i
 1)^(s [(2,i 7)]^bk 0 (lo (k (b .geq 2<|i 0) e (xt 0)^bk 1 (s [(6,i 0)]^bk 2 (lo<|k (b .lss 6<|i 18) e (xt 2)^bk 3 (s [(3,6)]^s [(7,i 0)]^bk 4 (lo<|k (b
 .lss 7<|i 9) e (xt 4)^bk 5 (s [(4,7)]^s [(5,i 1)]^bk 6 (lo<|k (b .leq 5<|i 6) e (xt 6)^bk 7 (hh [(11,n2 (.iAddrA 18 9) (n2 (.iAddrA 9 162) 1 2) 3),(9,
 ld<|n2 (.iAddrA 9 1) (n2 (.iAddrA 18 9) (n2 (.iAddrA 9 162) 1 2) 3) 4),(8,4)] 10 (.callK 1) (c (n2 (.iAddrA 9 1) (n2 (.iAddrA 18 9) (n2 (.iAddrA 9 162) 1
 2) 3) 4)<|c (fn 59)<|c 1<|c 2<|c3 3 4 5)^w 1 (n2 (.iAddrA 9 1) 11 8) (ad 9 10))^s [(5,ad 5<|i 1)]))^s [(7,ad 7<|i 1)]))^s [(6,ad 6<|i 1)]))^s
 [(2,b .sub 2<|i 1)])))^s [(0,1)]^r
def GV:CF:=⟨0,12,[(.var 0)],O2,.plain⟩
def Vi:XN:=[0,1,2,3,4,5,13,16,25,29,34,37]
def Vj:XN:=[0,1,2,6,7,8,9,10,11,13,14,19,20,26,29,35,49]
def R7:Stm:=
 h 0 (.alloc<|List.replicate 1458 z) .nil^(hh [(6,.node (.build (List.replicate 1458 z) []) .nil)] 1 (.alloc<|List.replicate 1458 z) .nil^w 1458 1 6)^w 1 (n2
 (.iAddrA 9 1) (n2 (.iAddrA 18 9) (n2 (.iAddrA 9 162) (fa 0 1)<|i 8)<|i 0)<|i 0) (i 1)^(s [(2,i 7)]^bk 0 (lo<|k (b .geq 2<|i 0) e (xt 0)^bk 1 (s [(3,i
 0)]^bk 2 (lo<|k (b .lss 3<|i 18) e (xt 2)^bk 3 (s [(4,i 0)]^bk 4 (lo<|k (b .lss 4<|i 9) e (xt 4)^bk 5 (s [(5,i 1)]^bk 6 (lo<|k (b .leq 5<|n2 (.minmax
 false) (i 6) 3) e (xt 6)^bk 7 (hh [(12,n2 (.iAddrA 18 9) (n2 (.iAddrA 9 162) (fa 0 1) 2) 3),(11,n2 (.iAddrA 18 9) (n2 (.iAddrA 9 162) (fa 0 1)<|ad 2 (i
 1))<|b .sub 3 5),(9,ad 4<|i 9),(8,ld<|n2 (.iAddrA 9 1) (n2 (.iAddrA 18 9) (n2 (.iAddrA 9 162) (fa 0 1) 2) 3) 4),(7,4)] 10 (.callK 1) (c (n2 (.iAddrA
 9 1) (n2 (.iAddrA 18 9) (n2 (.iAddrA 9 162) (fa 0 1) 2) 3) 4)<|c3 (fn 61) 2 5)^w 1 (n2 (.iAddrA 9 1) 12 7) (ad 8<|ld<|n2 (.iAddrA 9 1) 11<|b .rem (b .sub 9
 10)<|i 9))^s [(5,ad 5<|i 1)]))^s [(4,ad 4<|i 1)]))^s [(3,ad 3<|i 1)]))^s [(2,b .sub 2<|i 1)]))^w 1458 0 (lt 1458 1)^r
def R8:Stm:=
 s [(4,i 0),(3,i 0),(2,i 0)]^kq (b .neq (ln 1)<|i 8) (s [(4,i 7),(3,i 0),(2,i 0)]^r)^s [(5,i 0)]^(s [(13,i 0),(12,ln 1),(11,1)]^bk 0 (lo<|k (b
 .lss 13 12) e (xt 0)^bk 1 (s [(6,ld<|ia 1 11 13)]^kq (p (b .lss 6<|i 1) t<|b .gtr 6<|i 6) (s [(4,i 3),(3,i 0),(2,i 0)]^r)^s [(5,ad 5 6)])^s [(13,
 ad 13<|i 1)]))^s [(2,b .rem (ad (b .sub (ad (b .sub (ld<|ia 1 1<|i 0)<|ld<|ia 1 1<|i 2)<|ld<|ia 1 1<|i 4)<|ld<|ia 1 1<|i 6)<|i 18)<|i 9)]^kq
 (p (b .neq 5<|i 17) t<|b .neq (b .rem 2<|i 3)<|i 0) (s [(4,i 18),(3,i 0),(2,i 0)]^r)^s [(7,2)]^(s [(16,i 0),(15,ln 1),(14,1)]^bk 2 (lo<|k (b
 .lss 16 15) e (xt 2)^bk 3 (s [(9,ld<|ia 1 14 16),(8,16)]^(s [(10,i 1)]^bk 4 (lo<|k (b .lss 10 9) e (xt 4)^bk 5 (hh [(17,3)] 18 (.call false) (c (fn 59)
 (c 0<|c 8<|c3 5 7 10))^s [(3,ad 17 18)])^s [(10,ad 10<|i 1)]))^s [(5,b .sub 5 9)]^cl 19 60 (c3 8 7 9)^s [(7,19)])^s [(16,ad 16<|i 1)]))^kq (b .gtr
 3<|i 928) (s [(4,i 18),(3,i 0),(2,i 0)]^r)^s [(4,i 0),(3,3),(2,2)]^r
def O3:Stm:=
 (h 2 .box (c1 0)^s [(4,i 0),(3,i 0)])^s [(6,i 0),(5,i 0)]^(s [(7,i 0)]^bk 0 (lo<|k (b .lss 7<|ln 1) e (xt 0)^bk 1 (kq (p (b .lss (ld<|ia 1 1 7)<|i 1)
 t<|b .gtr (ld<|ia 1 1 7)<|i 6) (s [(4,i 0),(3,i<|-1)]^r)^s [(5,ad 5<|ld<|ia 1 1 7)]^hh [(12,6)] 13 (.call false) (c3 (fn 61) 7<|ld<|ia 1 1 7)^s
 [(6,b .rem (ad 12 13)<|i 9)])^s [(7,ad 7<|i 1)]))^kq (p (b .neq (ln 1)<|i 8) t<|b .neq 5<|i 17) (s [(4,i 0),(3,i<|-1)]^r)^s [(9,6),(8,i 0)]^(s
 [(10,i 0)]^bk 2 (lo<|k (b .lss 10<|i 8) e (xt 2)^bk 3 ((s [(11,i 1)]^bk 4 (lo<|k (b .lss 11<|ld<|ia 1 1 10) e (xt 4)^bk 5 (hh [(17,n2 (.iAddrA 18 9) (n2
 (.iAddrA 9 162) (fa 0 2)<|ad 10<|i 1)<|b .sub 5 11),(15,ad 9<|i 9),(14,8)] 16 .callC (c3 (fn 61) 10 11)^s [(8,ad 14<|ld<|n2 (.iAddrA 9 1) 17 (b .rem
 (b .sub 15 16)<|i 9))])^s [(11,ad 11<|i 1)]))^(hh [(18,ad 9<|i 9)] 19 (.call false) (c3 (fn 61) 10<|ld<|ia 1 1 10)^s [(9,b .rem (b .sub 18 19) (i
 9))])^s [(5,b .sub 5<|ld<|ia 1 1 10)])^s [(10,ad 10<|i 1)]))^s [(4,8),(3,6)]^r
def R9:Stm:=
 s [(2,f)]^s [(2,p (p (p (b .eql 0<|i 0) t<|b .eql 0<|i 3) t<|b .eql 0<|i 6) (b .leq 1<|i 928) f)]^r
def Vk:XN:=[0,2,3,4,5,6,7,8,9,14,16,21,23,32,35,37,38]
def Ra:Stm:=
 s [(1,i 0)]^s [(1,b .shl (i 1)<|ad 0<|i 1)]^r
def Vl:XN:=[0,2,3,4,5,7,8,9,13,14,16,17,19]
def Vm:XN:=[0,1,2,4,5,6,7,8,9,10,11,13,14,15,16,19,24,31,36,48,49,50,51,66,68,69,70,78,82,83,84,90,94,98,100]
def Vn:XN:=[0,1,2,5,6,7,8,9,10,11,12,13,15,17,18,19,20,26,32,34,35,36,37,47,52,64,65,67,68,72,74,75,76,85,86,87,92,93,97,98,99,100,107]
def Vo:XN:=[0,2]
def Vp:XN:=[0,1,4,5,6,21,25,26]
def Vq:XN:=[0,1,2]
def Vr:XN:=[0,1,2]
def Rb:Stm:=
 s [(2,f)]^kq (b .neq (ln 0)<|ln 1) (s [(2,f)]^r)^(s [(3,i 0)]^bk 0 (lo<|k (b .lss 3<|ln 0) e (xt 0)^bk 1 (kq (n2 (.eqB true) (ld<|ia 1 0 3)<|ld (ia 1 1
 3))<|s [(2,f)]^r)^s [(3,ad 3<|i 1)]))^s [(2,t)]^r
def Rc:Stm:=
 (h 1 .box (c1 0)^s [(2,f)])^kq (p (p (p (b .lss (lf 0 1)<|i 1) t<|b .gtr (lf 0 1)<|i 4096) t<|b .lss (lf 1 1)<|i 1) t<|b .gtr (lf 1 1)<|i 4096) (s [(2,
 f)]^r)^s [(2,p (b .leq (b .mul (lf 0 1)<|lf 1 1)<|i 4194304) (b .eql (ln<|lf 2 1)<|b .mul (lf 0 1)<|lf 1 1) f)]^r
def Vs:XN:=[0,1,4,5,9]
def Vt:XN:=[0,1,4,5]
def Rd:Stm:=
 s [(4,.cst .nilIface)]^s [(5,b .sub (ln 1)<|ln 3)]^(cl 14 86 (c2 (n2 (.sl 1 false true false) 1<|ln 2) 2)^Stm.hv [(15,n1 (.un .not) 14)] [] [(n1 (.un .not)
 14,false)] (some 16) (.call false) (c3 (fn 86) (n2 (.sl 1 true false false) 1 5) 3)^kq (p 15 t<|n1 (.un .not) 16) (s [(4,n1 (.mkI 149)<|.node (.build []
 []) .nil)]^r))^(cl 17 87 (c2 0<|.node (.sl 1 true true false)<|c3 1 (i 17)<|i 34)^s [(8,ix 2 17),(7,ix 1 17),(6,ix 0 17)])^(cl 18 87 (c2 0 (.node
 (.sl 1 true true false)<|c3 1 (b .sub 5<|i 17) 5))^s [(11,ix 2 18),(10,ix 1 18),(9,ix 0 18)])^(hh [(19,.node (.build [z,z,z,u] [(1,1),(2,1),(3,
 1)])<|c3 (i<|-1) (i<|-1)<|.node (.sl 1 true true false)<|c3 1 (i 34)<|b .sub 5<|i 17)] 12 (.alloc [z,z,z,u]) .nil^w 4 12 19)^kq 8 (Stm.hv [(20,b
 .rem 7<|i 30)] [] [] none (.st 1) (c2 (fa 0 12)<|ad (b .mul (i 3)<|b .quo 7<|i 30)<|b .quo 6<|i 3)^w 1 (fa 1 12) 20)^kq 11 (s [(13,ad (b .mul (i 3) (b
 .quo 10<|i 30))<|b .quo 9<|i 3)]^kq (p 8 (b .neq 13<|lf 0 12) f) (s [(4,n1 (.mkI 149)<|.node (.build [] []) .nil)]^r)^Stm.hv [(21,b .rem 10<|i 30)] []
 [] none (.st 1) (c2 (fa 0 12) 13)^w 1 (fa 2 12) 21)^kq (p (n1 (.un .not) 8) (n1 (.un .not) 11) f) (s [(4,n1 (.mkI 149)<|.node (.build [] []) .nil)]^r)^s
 [(4,n1 (.mkI 153)<|lt 4 12)]^r
def Re:Stm:=
 s [(4,i 0),(3,i 0),(2,i 0)]^(h 5 (.alloc<|List.replicate 30 z) .nil^h 6 (.alloc<|List.replicate 30 z) .nil)^(s [(17,i 0),(16,ln 0),(15,0)]^bk 0 (lo
 (k (b .lss 17 16) e (xt 0)^bk 1 (s [(7,ld<|ia 1 15 17)]^s [(18,7)]^bk 2 (s [(20,ix 0<|n1 (.tas 153 [.int .i64 0,.int .i64 0,.int .i64 0,.slice none 0
 0]) 18),(19,ix 1<|n1 (.tas 153 [.int .i64 0,.int .i64 0,.int .i64 0,.slice none 0 0]) 18)]^k 19 ((h 8 (.alloc [z,z,z,u]) .nil^w 4 8 20)^s [(21,b
 .rem (lf 0 8)<|i 3)]^bk 3 (k (b .eql 21<|i 0) (v (.call false)<|c3 (fn 88) 5<|lf 1 8)<|k (b .eql 21<|i 1) (v (.call false) (c3 (fn 88) 6<|lf 1 8)^v
 (.call false) (c3 (fn 88) 5<|lf 2 8))<|kq (b .eql 21<|i 2)<|v (.call false)<|c3 (fn 88) 6<|lf 2 8)) (s [(23,ix 0<|n1 (.tas 149 []) 18),(22,ix 1 (n1
 (.tas 149 []) 18))]^kq 22 (h 9 (.alloc []) .nil^w 0 9 23))))^s [(17,ad 17<|i 1)])))^(cl 24 89 (c1 5)^s [(11,ix 1 24),(10,ix 0 24)])^(cl 25 89 (c1 6)^s
 [(13,ix 1 25),(12,ix 0 25)])^s [(2,ad (ad (b .mul (i 3) 10)<|b .rem 12<|i 3)<|i 1)]^s [(3,b .quo 12<|i 3)]^kq (p (p (p (n1 (.un .not) 11) t<|n1 (.un
 .not) 13) t<|b .lss 2<|i 3) t<|b .gtr 3<|i 8) (s [(4,i 21),(3,i 0),(2,i 0)]^r)^(s [(14,b .mul 2 1)]^hh [(26,14)] 27 (.call false) (c2 (fn 32)
 3)^kq (p (b .leq 26 27) t<|b .gtr 14<|i 928) (s [(4,i 21),(3,i 0),(2,i 0)]^r))^s [(4,i 0),(3,3),(2,2)]^r
def Rf:Stm:=
 s [(5,.cst u),(4,.cst u)]^(h 14 (.mkSl [z]) (c2 (b .mul 2 3)<|b .mul 2 3)^s [(4,14)])^(s [(16,i 0),(15,2)]^bk 0 (lo<|k (b .lss 16 15) e (xt 0)^bk 1 ((hh
 [(17,16)] 6 (.alloc [z]) .nil^w 1 6 17)^(cl 18 90 (c2 1<|n1 (.mkF 91 0) 6)^s [(7,18)])^s [(20,i 0),(19,3)]^bk 2 (lo<|k (b .lss 20 19) e (xt 2)^bk 3 (s
 [(8,20)]^s [(9,ad (b .mul (ld 6) 3) 8)]^s [(11,f),(10,i 0)]^kq (b .geq 7<|i 0) ((hh [(22,ix 1<|n1 (.tas 153 [.int .i64 0,.int .i64 0,.int .i64 0,
 .slice none 0 0])<|ld<|ia 1 1 7),(21,ix 0<|n1 (.tas 153 [.int .i64 0,.int .i64 0,.int .i64 0,.slice none 0 0])<|ld<|ia 1 1 7)] 12 (.alloc [z,z,z,
 u]) .nil^w 4 12 21^s [(13,22)])^kq 13 (cl 23 92 (c3 (lt 4 12) 0 8)^s [(11,ix 1 23),(10,ix 0 23)]))^k 11 (w 1 (ia 1 4 9) 10) (hh [(24,5)] 25 (.bSl [z] 1
 [0]) (c1 9)^h 26 (.app 1 [z]) (c2 24 25)^s [(5,26)]))^s [(20,ad 20<|i 1)]))^s [(16,ad 16<|i 1)]))^s [(5,5),(4,4)]^r
def O4:Stm:=
 (h 3 .box (c1 0)^h 4 (.alloc [u,u]) .nil^s [(5,i 0)])^(cl 11 67 (c2 (lt 5 3) 1)^kq (n1 (.un .not) 11) ((w 2 4 (.node (.build [u,u] []) .nil)^s [(5,i
 1)])^r))^(s [(14,i 0),(13,ln 2),(12,2)]^bk 0 (lo<|k (b .lss 14 13) e (xt 0)^bk 1 (s [(6,ld<|ia 1 12 14)]^kq (p (b .lss 6<|i 0) t<|b .geq 6<|ln 1)
 ((w 2 4 (.node (.build [u,u] []) .nil)^s [(5,i 1)])^r))^s [(14,ad 14<|i 1)]))^(cl 15 68 (c2 (lt 5 3)<|ln 1)^kq (n1 (.un .not) 15) ((w 2 4 (.node (.build
 [u,u] []) .nil)^s [(5,i 7)])^r))^(hh [(20,ln 1),(18,1),(17,lt 5 3)] 16 (.callK 1) (c3 3 (fn 93)<|lt 3<|fa 0 3)^h 19 (.app 1 [z]) (c2 (.cst u) 18)^h
 21 (.mkSl [.bool false]) (c2 20 20)^h 22 .box (c1<|.node (.build [z,z,u,u,z,z,z,z,z,u,u,z,u,u,u,u] [(0,4),(4,5),(9,1),(10,1)])<|c 16 (c3
 17 19 21))^s [(7,22)]^Stm.dist (.cst u) 3)^(s [(25,i 0),(24,ln 2),(23,2)]^bk 2 (lo<|k (b .lss 25 24) e (xt 2)^bk 3 (s [(8,ld<|ia 1 23 25)]^kq (n1
 (.un .not)<|ld<|ia 1 (lf 10<|nk 7) 8) (w 1 (ia 1 (lf 10<|nk 7) 8) t^w 1 (fa 11<|nk 7) (ad (lf 11<|nk 7)<|i 1)))^s [(25,ad 25<|i 1)]))^(cl 26 94 (c1
 7)^kq (n1 (.un .not) 26) ((w 2 4 (.node (.build [u,u] []) .nil)^s [(5,i 17)])^r))^s [(9,.cst u)]^(s [(28,i 0),(27,ln 1)]^bk 4 (lo (k (b .lss 28 27) e
 (xt 4)^bk 5 (s [(10,28)]^kq (b .neq (ld<|ia 1 (lf 9<|nk 7) 10)<|ld<|ia 1 1 10) (hh [(29,9)] 30 (.bSl [z] 1 [0]) (c1 10)^h 31 (.app 1 [z]) (c2 29 30)^s
 [(9,31)]))^s [(28,ad 28<|i 1)])))^(w 2 4 (n2 (.build [u,u] [(0,1),(1,1)]) (lf 9<|nk 7) 9)^s [(5,i 0)])^r
def O5:Stm:=
 (h 1 (.alloc [u]) .nil^h 2 (.alloc [z]) .nil)^kq (b .gtr (ln 0)<|i 8192) ((w 1 1 (.cst u)^w 1 2 (i 4))^r)^(s [(7,i 0),(6,ln 0),(5,0)]^bk 0 (lo<|k (b .lss
 7 6) e (xt 0)^bk 1 (s [(3,ld<|ia 1 5 7)]^kq (p (b .lss 3<|i 0) t<|b .gtr 3<|i 928) ((w 1 1 (.cst u)^w 1 2 (i 3))^r))^s [(7,ad 7<|i 1)]))^e
def QM:Stm:=
 s [(8,n2 (.mkF 95 0) 1 2)]
def Qq:Stm:=
 (hh [(9,n1 (.build [u,z,z,z,u] [(0,1)]) 0)] 4 (.alloc [u,z,z,z,u]) .nil^w 5 4 9)^bk 2 (lo<|k (b .lss (lf 1 4)<|ln 0) e (xt 2)^bk 3 (v (.call false)
 (c2 (fn 96) 4)))^(w 1 1 (lf 4 4)^w 1 2 (i 0))^r
def cf50:CF:=⟨1,10,[(.node (.ld 1 false)<|.cons (.var 1) .nil),(.node (.ld 1 false)<|.cons (.var 2) .nil)],O5,.dfr QM 8 Qq⟩
def Vu:XN:=[0,2,3,5,6,10,11,12,23,25]
def Rg:Stm:=
 (h 1 .box (c1 0)^s [(2,f)])^s [(2,p (p (p (p (p (b .geq (lf 0 1)<|i 1) (b .leq (lf 0 1)<|i 4096) f) (b .geq (lf 1 1)<|i 1) f) (b .leq (lf 1 1)<|i 4096) f)
 (b .leq (b .mul (lf 0 1)<|lf 1 1)<|i 4194304) f) (b .eql (ln<|lf 2 1)<|b .mul (lf 0 1)<|lf 1 1) f)]^r
def Rh:Stm:=
 (h 2 .box (c1 0)^h 3 .box (c1 1)^hh [(4,.cst u)] 5 (.alloc<|List.replicate 60 z) .nil)^s [(6,.cst u)]^(hh [(16,.node (.build (List.replicate 60 z) [])
 .nil)] 7 (.alloc<|List.replicate 60 z) .nil^w 60 7 16)^(s [(8,i 0)]^bk 0 (lo<|k (b .lss 8<|lf 1 3) e (xt 0)^bk 1 (s [(9,.node (.sl 1 true true false) (c3
 (lf 2 3) (b .mul 8<|lf 0 3)<|ad (b .mul 8<|lf 0 3)<|lf 0 3))]^(hh [(17,n2 (.sl 1 false true false) 9<|i 17)] 18 .callC (c1<|fn 40)^h 19 .callC (c3 (fn
 42) 17 18)^Stm.hv [(21,p (n1 (.un .not) 19) (.cst<|.tuple #[])<|n2 (.sl 1 true false false) 9<|b .sub (lf 0 3)<|i 18),(20,n1 (.un .not) 19)] [] [(n1
 (.un .not) 19,false)] (some 22) (.callK 1) (c2 (fa 0 3)<|fn 41)^Stm.hv [] [] [(20,false)] (some 23) .callC (c3 (fn 42) 21 22)^kq (p 20 t (n1 (.un .not)
 23)) (xt 1))^(h 24 .callC (c3 (fn 99) (lt 1458 2)<|.node (.sl 1 true true false)<|c3 9 (i 17)<|i 34)^s [(11,ix 1 24),(10,ix 0 24)])^(h 25 .callC (c3 (fn
 99) (lt 1458 2)<|.node (.sl 1 true true false)<|c3 9 (b .sub (lf 0 3)<|i 35)<|b .sub (lf 0 3)<|i 18)^s [(13,ix 1 25),(12,ix 0 25)])^s [(15,ad (b .mul
 (i 3)<|b .quo 13<|i 30)<|b .quo 12<|i 3),(14,ad (b .mul (i 3)<|b .quo 11<|i 30)<|b .quo 10<|i 3)]^kq (p (p (b .lss 10<|i 0) (b .lss 12<|i 0) f) t
 (p (p (b .geq 10<|i 0) (b .geq 12<|i 0) f) (b .neq 14 15) f)) (xt 1)^kq (b .lss 10<|i 0) (s [(14,15)])^(cl 26 100 (c (lt 60 7)<|c3 10 11<|i 0)^cl 27 100
 (c 26<|c3 12 13<|i 1)^w 60 7 27)^hh [(28,6)] 29 (.bSl [z,u] 1 [0]) (c1<|n2 (.build [z,u] [(0,1),(1,1)]) 14 9)^h 30 (.app 2 [z,u]) (c2 28 29)^s [(6,
 30)])^s [(8,ad 8<|i 1)]))^Stm.hv [(4,6)] [] [] none (.st 60) (c2 5<|lt 60 7)^r
def Ri:Stm:=
 (h 1 .box (c1 0)^s [(2,i 0)])^s [(3,i<|-1)]^(s [(4,i 0)]^bk 0 (lo<|k (b .lss 4<|i 30) e (xt 0)^bk 1 (kq (p (b .gtr (ld<|n2 (.iAddrA 30 1) 1 4)<|i 0) (p
 (b .lss 3<|i 0) t<|b .gtr (ld<|n2 (.iAddrA 30 1) 1 4)<|ld<|n2 (.iAddrA 30 1) 1 3) f)<|s [(3,4)])^s [(4,ad 4<|i 1)]))^s [(2,3)]^r
def Rj:Stm:=
 (h 4 .box (c1 0)^s [(6,.cst u),(5,.cst u)])^(h 17 (.mkSl [z]) (c2 (b .mul 2 3)<|b .mul 2 3)^s [(7,17)])^(h 18 (.mkSl [.bool false]) (c2 (b .mul 2 3) (b
 .mul 2 3))^s [(8,18)])^(h 19 (.mkSl [.bool false]) (c2 2 2)^s [(9,19)])^(s [(10,i 0)]^bk 0 (lo (k (b .lss 10<|ln 1) e (xt 0)^bk 1 (s [(11,lf 0 (ia 2 1
 10))]^kq (p (b .geq 11 2) t<|ld<|ia 1 9 11) (xt 1)^w 1 (ia 1 9 11) t^s [(12,i 0)]^bk 2 (lo<|k (b .lss 12 3) e (xt 2)^bk 3 ((h 20 .callC (c3 (fn 99) (lt
 1458 4)<|.node (.sl 1 true true false)<|c3 (lf 1<|ia 2 1 10) (ad (i 34)<|b .mul (i 17) 12)<|ad (i 51)<|b .mul (i 17) 12)^s [(14,ix 1 20),(13,ix 0
 20)])^kq (b .eql 13<|b .mul (i 3)<|b .rem 11<|i 3) (w 1 (ia 1 7<|ad (b .mul 11 3) 12) 14^w 1 (ia 1 8<|ad (b .mul 11 3) 12) t))^s [(12,ad 12<|i 1)]))^s
 [(10,ad 10<|i 1)])))^s [(15,.cst u)]^(s [(16,i 0)]^bk 4 (lo<|k (b .lss 16<|ln 8) e (xt 4)^bk 5 (kq (n1 (.un .not)<|ld<|ia 1 8 16) (hh [(21,15)] 22
 (.bSl [z] 1 [0]) (c1 16)^h 23 (.app 1 [z]) (c2 21 22)^s [(15,23)]))^s [(16,ad 16<|i 1)]))^s [(6,15),(5,7)]^r
def O6:Stm:=
 (h 3 .box (c1 0)^h 4 (.alloc [u,u]) .nil^s [(5,i 0)])^(cl 9 79 (c1<|lt 5 3)^Stm.hv [(10,n1 (.un .not) 9)] [] [(n1 (.un .not) 9,false)] (some 11) (.call
 false) (c3 (fn 80) (lt 3<|fa 0 3) 1)^kq (p 10 t<|n1 (.un .not) 11) ((w 2 4 (.node (.build [u,u] []) .nil)^s [(5,i 1)])^r))^(s [(6,i 0)]^bk 0 (lo<|k (b
 .lss 6<|ln 2) e (xt 0)^bk 1 (kq (p (b .lss (ld<|ia 1 2 6)<|i 0) t<|b .geq (ld<|ia 1 2 6)<|ln 1)<|(w 2 4 (.node (.build [u,u] []) .nil)^s [(5,i
 1)])^r)^s [(6,ad 6<|i 1)]))^kq (p (b .leq (ln 1)<|lf 3 3) t<|b .gtr (ln 1)<|b .sub (lf 1<|fa 0 3)<|i 1) ((w 2 4 (.node (.build [u,u] []) .nil)^s
 [(5,i 7)])^r)^(cl 12 101 (c2 (ln 1) 2)^s [(8,ix 1 12),(7,ix 0 12)])^kq (b .gtr 8<|lf 3 3) ((w 2 4 (.node (.build [u,u] []) .nil)^s [(5,i 17)])^r)^(cl
 13 102 (c (lt 5 3)<|c3 1 7 8)^Stm.hv [(14,ix 1 13)] [] [] none (.st 2) (c2 4<|ix 0 13)^s [(5,14)])^r
def Rk:Stm:=
 s [(2,f)]^(s [(3,i 0)]^bk 0 (lo<|k (b .lss 3<|ln 0) e (xt 0)^bk 1 (kq (b .eql (ld<|ia 1 0 3) 1)<|s [(2,t)]^r)^s [(3,ad 3<|i 1)]))^s [(2,f)]^r
def Rl:Stm:=
 s [(2,i 0),(1,.cst u)]^kq (b .gtr (ln 0)<|i 8192) (s [(2,i 4),(1,.cst u)]^r)^(s [(3,i 0)]^bk 0 (lo<|k (b .lss 3<|ln 0) e (xt 0)^bk 1 (kq (p (b .lss (ld
 (ia 1 0 3))<|i 0) t<|b .gtr (ld<|ia 1 0 3)<|i 928)<|s [(2,i 3),(1,.cst u)]^r)^s [(3,ad 3<|i 1)]))^s [(4,.cst u)]^s [(6,i 0),(5,i 0)]^(s [(7,i
 0)]^bk 2 (lo<|k (b .lss 7<|ln 0) e (xt 2)^bk 3 (s [(8,ld<|ia 1 0 7)]^s [(7,ad 7<|i 1)]^kq (b .lss 8<|i 900) ((cl 16 103 (c3 8 5 6)^s [(12,ix 3 16),
 (11,ix 2 16),(10,ix 1 16),(9,ix 0 16)])^kq (n1 (.un .not) 12) (s [(2,i 22),(1,.cst u)]^r)^(h 17 (.app 1 [.int .u8 0]) (c2 4 9)^s [(4,17)])^s [(6,
 11),(5,10)]^xt 3)^s [(6,i 0)]^k (b .eql 8<|i 900) (s [(5,i 0)]) (k (b .eql 8<|i 913) (kq (b .eql 7<|ln 0) (s [(2,i 10),(1,.cst u)]^r)^kq (b .gtr (ld
 (ia 1 0 7))<|i 255) (s [(2,i 22),(1,.cst u)]^r)^(hh [(18,4)] 19 (.bSl [.int .u8 0] 1 [0]) (c1<|n1 (.cvt .u8)<|ld<|ia 1 0 7)^h 20 (.app 1 [.int .u8 0])
 (c2 18 19)^s [(4,20)])^s [(7,ad 7<|i 1)])<|k (p (p (b .eql 8<|i 901) t<|b .eql 8<|i 902) t<|b .eql 8<|i 924) ((cl 21 104 (c1<|n2 (.sl 1 true false
 false) 0 7)^s [(13,21)])^(cl 22 105 (c2 8<|.node (.sl 1 true true false)<|c3 0 7<|ad 7 13)^s [(15,ix 1 22),(14,ix 0 22)])^kq (b .neq 15<|i 0) (s [(2,
 15),(1,.cst u)]^r)^(h 23 (.app 1 [.int .u8 0]) (c2 4 14)^s [(4,23)])^s [(7,ad 7 13)]^kq (p (b .lss 7<|ln 0) (b .eql (ld<|ia 1 0 7)<|i 913) f) (s [(2,i
 22),(1,.cst u)]^r)^s [(5,i 0)])<|s [(2,i 22),(1,.cst u)]^r))))^s [(2,i 0),(1,4)]^r
def O7:Stm:=
 s [(5,i 0)]^kq (b .gtr 4 2) (s [(5,i 0)]^r)^(hh [(7,n2 (.iAddrA 18 9) (n2 (.iAddrA 9 162) (nk 0)<|ad 1<|i 1)<|b .sub 2 4)] 6 .callC (c (fn 60) (c3 1 3
 4))^s [(5,ld<|n2 (.iAddrA 9 1) 7 6)])^r
def GW:CF:=⟨5,8,[(.var 5)],O7,.plain⟩
def Vv:XN:=[0,1,2,3,4,10,23,26]
def O8:Stm:=
 s [(3,i 0)]^(s [(4,0)]^bk 0 ((s [(5,b .eql 4<|i 0)]^k 5 e (s [(5,b .eql 4<|i 4)]))^k 5 (s [(3,b .rem (ad (b .sub 1 2)<|i 9)<|i 9)]^r) ((s [(6,b .eql 4
 (i 2))]^k 6 e (s [(6,b .eql 4<|i 6)]))^kq 6 (s [(3,b .rem (ad 1 2)<|i 9)]^r))))^s [(3,1)]^r
def GX:CF:=⟨3,7,[(.var 3)],O8,.plain⟩
def Vw:XN:=[0,1,2,6,7,8,16]
def O9:Stm:=
 s [(2,i 0)]^kq (b .eql (b .rem 0<|i 2)<|i 1) (s [(2,i 0)]^r)^kq (b .eql (b .rem 0<|i 4)<|i 0) (s [(2,1)]^r)^s [(2,b .sub (i 9) 1)]^r
def GY:CF:=⟨2,3,[(.var 2)],O9,.plain⟩
def Vx:XN:=[0,1,4]
def Vy:XN:=[0,2,3,4,5,9,10,11,12,13,14,15,16,17,18,19,20,21,22,24]
def Vz:XN:=[0,1,3,4,6]
def WA:XN:=[0,1,2,6,7,8,9,10,12,14,15,16,17,18,21,25,26,27,30,35,39,58,61,62]
def WB:XN:=[0,2,3,12,17,19]
def WC:XN:=[0,1,2,3,6,7,9,15]
def Rm:Stm:=
 (h 2 .box (c1 0)^s [(3,f)])^(cl 4 111 (c1<|lt 3<|fa 0 2)^Stm.hv [(5,4)] [] [(4,true)] (some 6) (.call false) (c (fn 112)<|c3 (lt 3<|fa 0 2) (lf 3 2) (lf 4
 2))^Stm.hv [(7,p 5 6 f)] [] [(p 5 6 f,true)] (some 8) (.call false) (c3 (fn 113) (lt 3<|fa 0 2) 1)^s [(3,p 7 8 f)])^r
def Rn:Stm:=
 (h 2 .box (c1 0)^s [(3,f)])^s [(3,p (b .gtr 1<|lf 3 2) (b .lss 1<|lf 1<|fa 0 2) f)]^r
def WD:XN:=[0,1,2,3,4,5,6,8,12,15,17,18,21,22,28,34]
def WE:XN:=[0,1,2,3,6,7,8,9,12,13,20,23]
def WG:XN:=[0,2,3,21]
def WH:XN:=[0,1,2,3,6,7,8,11,12]
def WI:XN:=[0,1,4,5,6,7,8,18,30,33,38,45]
def Ro:Stm:=
 (h 1 .box (c1 0)^s [(2,f)])^s [(3,lf 1<|fa 0 1)]^(cl 4 125 (c1<|lt 3<|fa 0 1)^s [(2,p (p (p (p 4 (b .geq (lf 3 1)<|i 1) f) (b .leq (lf 3 1)<|b .sub 3 (i
 2)) f) (b .geq (lf 4 1)<|i 0) f) (b .leq (lf 4 1)<|b .sub 3<|i 2) f)])^r
def Rp:Stm:=
 (h 2 .box (c1 0)^s [(3,f)])^(s [(4,i 0)]^bk 0 (lo<|k (b .lss 4<|ln 1) e (xt 0)^bk 1 (h 5 .callC (c3 (fn 126) (lt 3 2)<|ld<|ia 1 1 4)^kq (n1 (.un .not) 5)
 (s [(3,f)]^r))^s [(4,ad 4<|i 1)]))^s [(3,t)]^r
def Rq:Stm:=
 (h 3 .box (c1 0)^s [(4,i 0)])^kq (b .eql (lf 0 3)<|i 2) (s [(4,b .xor 1 2)]^r)^s [(4,b .rem (ad 1 2)<|lf 1 3)]^r
def Rr:Stm:=
 (h 3 .box (c1 0)^s [(4,i 0)])^kq (b .eql (lf 0 3)<|i 2) (s [(4,b .xor 1 2)]^r)^s [(4,b .rem (b .sub (ad 1<|lf 1 3) 2)<|lf 1 3)]^r
def Rs:Stm:=
 (h 3 .box (c1 0)^s [(4,i 0)])^kq (b .neq (lf 0 3)<|i 2) (s [(4,b .rem (b .mul 1 2)<|lf 1 3)]^r)^s [(5,i 0)]^(s [(6,i 0)]^bk 0 (lo<|k (b .gtr (b .shr 2 (n1
 (.cvt .u64) 6))<|i 0) e (xt 0)^bk 1 (kq (b .eql (b .and (b .shr 2<|n1 (.cvt .u64) 6)<|i 1)<|i 1)<|s [(5,b .xor 5<|b .shl 1<|n1 (.cvt .u64) 6)])^s [(6,
 ad 6<|i 1)]))^(cl 7 129 (c2 5<|lf 2 3)^s [(4,7)])^r
def WJ:XN:=[0,2,3,4,6,7,8,9,18,20,21,22,33,34,35,36,41,42,44,48,49]
def Rt:Stm:=
 s [(2,f)]^kq (b .neq (ln 0)<|ln 1) (s [(2,f)]^r)^(s [(5,i 0),(4,ln 0)]^bk 0 (lo<|k (b .lss 5 4) e (xt 0)^bk 1 (s [(3,5)]^kq (n2 (.eqB true) (ld (ia 1 0
 3))<|ld<|ia 1 1 3) (s [(2,f)]^r))^s [(5,ad 5<|i 1)]))^s [(2,t)]^r
def Ru:Stm:=
 s [(4,f),(3,i 0),(2,i 0)]^kq (n1 (.un .not)<|ld<|ia 1 1<|i 0) (s [(4,f),(3,i 0),(2,i 0)]^r)^s [(5,.cst u)]^(s [(11,i 0),(10,ln 1),(9,1)]^bk 0
 (lo<|k (b .lss 11 10) e (xt 0)^bk 1 (s [(7,ld<|ia 1 9 11),(6,11)]^kq (p (b .eql 6<|i 0) t<|n2 (.eqB true) 7<|ld<|ia 1 1<|b .sub 6<|i 1) (hh [(12,
 5)] 13 (.bSl [z] 1 [0]) (c1<|i 0)^h 14 (.app 1 [z]) (c2 12 13)^s [(5,14)])^w 1 (ia 1 5<|b .sub (ln 5)<|i 1) (ad (ld<|ia 1 5<|b .sub (ln 5)<|i 1) (i
 1)))^s [(11,ad 11<|i 1)]))^(cl 15 27 (c2 0 5)^s [(8,ix 2 15),(3,ix 1 15),(2,ix 0 15)])^s [(4,b .eql 8<|i 0),(3,3),(2,2)]^r
def Oa:Stm:=
 kq (b .geq 1<|i 0)<|w 1 (n2 (.iAddrA 30 1) (nk 0) 1)<|ad (ld<|n2 (.iAddrA 30 1) (nk 0) 1)<|i 1
def Rv:Stm:=
 s [(2,f),(1,i 0)]^s [(3,i 0)]^(s [(7,i 0),(6,0)]^bk 0 (lo<|k (b .lss 7<|i 30) e (xt 0)^bk 1 (s [(5,ld<|n2 (.iAddrA 30 1) (nk 6) 7),(4,7)]^kq (b .gtr
 5<|ld<|n2 (.iAddrA 30 1) (nk 0) 3) (s [(3,4)]))^s [(7,ad 7<|i 1)]))^s [(2,b .gtr (ld<|n2 (.iAddrA 30 1) (nk 0) 3)<|i 0),(1,3)]^r
def Rw:Stm:=
 s [(2,i 0)]^(s [(5,i 0),(4,ln 0)]^bk 0 (lo<|k (b .lss 5 4) e (xt 0)^bk 1 (s [(3,5)]^h 6 (.call false) (c2 1<|ld<|ia 1 0 3)^kq 6 (s [(2,3)]^r))^s [(5,ad
 5<|i 1)]))^s [(2,i<|-1)]^r
def Rx:Stm:=
 (h 3 .box (c1 0)^s [(5,f),(4,i 0)])^(cl 9 87 (c2 1<|.node (.sl 1 true true false)<|c3 (lf 3 3) (b .mul (i 17) 2)<|ad (b .mul (i 17) 2)<|i 17)^s [(8,ix 2
 9),(7,ix 1 9),(6,ix 0 9)])^kq (p (n1 (.un .not) 8) t<|b .neq 6<|b .mul (i 3)<|b .rem (lf 0 3)<|i 3) (s [(5,f),(4,i 0)]^r)^s [(5,t),(4,7)]^r
def Ry:Stm:=
 (h 1 .box (c1 0)^h 2 (.alloc [z,z,u,u]) .nil)^(cl 7 131 (c1<|lt 3 1)^Stm.sets [(3,ix 0 7)] [ix 1 7])^(hh [(11,lf 1 1),(9,lf 1 1),(8,lf 0 1)] 10 (.mkSl
 [z]) (c2 (b .sub (lf 1 1)<|i 1)<|b .sub (lf 1 1)<|i 1)^h 12 (.mkSl [z]) (c2 11 11)^hh [(13,.node (.build [z,z,u,u] [(0,1),(1,1),(2,1),(3,1)]) (c
 8<|c3 9 10 12))] 4 (.alloc [z,z,u,u]) .nil^w 4 4 13)^s [(5,i 1)]^(s [(15,i 0),(14,ln<|lf 2 4)]^bk 0 (lo<|k (b .lss 15 14) e (xt 0)^bk 1 (s [(6,
 15)]^(Stm.hv [(20,ia 1 (lf 2 4) 6),(19,6),(18,5),(17,lf 3 4),(16,fa 3 4)] [] [] none (.st 1) (c2 (ia 1 (lf 2 4) 6) 5)^w 1 (ia 1 17 18) 19^Stm.dist 20
 16)^cl 21 132 (c3 (lt 3 1) 5 3)^Stm.sets [(5,ix 0 21)] [ix 1 21])^s [(15,ad 15<|i 1)]))^w 4 2 (lt 4 4)^r
def Rz:Stm:=
 s [(1,f)]^(h 4 (.bSl [.nilFunc] 6 [0,1,2,3,4,5]) (c (n1 (.mkF 133 1) 0)<|c (n1 (.mkF 134 1) 0)<|c (n1 (.mkF 135 1) 0)<|c3 (n1 (.mkF 136 1) 0) (n1 (.mkF
 137 1) 0)<|n1 (.mkF 138 1) 0)^s [(2,4)])^(s [(7,i 0),(6,ln 2),(5,2)]^bk 0 (lo<|k (b .lss 7 6) e (xt 0)^bk 1 (s [(3,ld<|ia 1 5 7)]^h 8 (.call
 false) (c1 3)^kq (n1 (.un .not) 8) (s [(1,f)]^r))^s [(7,ad 7<|i 1)]))^s [(1,t)]^r
def Ob:Stm:=
 (hh [(6,ix 1<|n1 (.tas 169 [.int .i64 0]) 4),(5,ix 0<|n1 (.tas 169 [.int .i64 0]) 4),(4,4)] 2 (.alloc [z]) .nil^w 1 2 5^s [(3,6)])^kq 3 (Stm.hv [(8,lf
 0 2),(7,fa 0 2)] [] [] none (.st 1) (c2 0<|.cst u)^w 1 1 8^Stm.dist 0 7)
def Oc:Stm:=
 s [(1,ld<|ia 1 (lf 0<|nk 0)<|lf 1<|nk 0)]^w 1 (fa 1<|nk 0) (ad (lf 1<|nk 0)<|i 1)^bk 0 (k (b .lss 1<|i 900) (v (.call false) (c3 (fn 139) 0 (b .quo 1
 (i 30)))^v (.call false) (c3 (fn 139) 0<|b .rem 1<|i 30))<|k (b .eql 1<|i 900) (w 2 (fa 2<|nk 0)<|n2 (.build [z,z] [(0,1),(1,1)]) (i 0)<|i 0)<|k (b
 .eql 1<|i 913) (v (.call false)<|c2 (fn 140) 0) (k (p (p (b .eql 1<|i 901) t<|b .eql 1<|i 924) t<|b .eql 1<|i 902) (v (.call false)<|c3 (fn 141) 0 1)
 (v .pan<|c1<|n1 (.mkI 169)<|n1 (.build [z] [(0,1)])<|i 22)))
def Ap:CF:=⟨1,2,[],Oc,.plain⟩
def WK:XN:=[0,2]
def WM:XN:=[0,1,4,6,7,9]
def WN:XN:=[0,2]
def SA:Stm:=
 (h 2 .box (c1 0)^s [(4,i 0),(3,i 0)])^(hh [(7,lt 1458 2)] 8 (.callK 1) (c3 2 (fn 143) 1)^h 9 .callC (c3 (fn 28) 7 8)^s [(6,ix 1 9),(5,ix 0 9)])^(cl 10 29
 (c2 5 6)^kq (n1 (.un .not) 10) (s [(4,i 0),(3,i<|-1)]^r))^s [(4,6),(3,5)]^r
def Fu:Stm:=
 (h 4 .box (c1 0)^h 5 (.alloc<|List.replicate 60 z) .nil)^s [(6,b .rem (ad (b .quo 1<|i 3)<|b .mul (i 2) 3)<|i 3)]^kq (p (b .lss 1<|i 0) t<|b .eql 6 (i
 2)) (w 60 5 (lt 60 4)^r)^k (b .eql 6<|i 0) (w 1 (n2 (.iAddrA 30 1) (fa 0 4)<|b .rem 2<|i 30)<|ad (ld<|n2 (.iAddrA 30 1) (fa 0 4)<|b .rem 2<|i 30) (i
 1)) (w 1 (n2 (.iAddrA 30 1) (fa 30 4)<|b .rem 2<|i 30)<|ad (ld<|n2 (.iAddrA 30 1) (fa 30 4)<|b .rem 2<|i 30)<|i 1)^w 60 5 (lt 60 4)^r
def M5:Stm:=
 s [(3,i 0),(2,.cst u)]^(h 7 (.mkSl [.bool false]) (c2 0 0)^s [(4,7)])^s [(5,i 0)]^(s [(6,i 0)]^bk 0 (lo<|k (b .lss 6<|ln 1) e (xt 0)^bk 1 (kq (n1 (.un
 .not)<|ld<|ia 1 4<|ld<|ia 1 1 6)<|w 1 (ia 1 4<|ld<|ia 1 1 6) t^s [(5,ad 5<|i 1)])^s [(6,ad 6<|i 1)]))^s [(3,5),(2,4)]^r
def qk:Stm:=
 (h 4 .box (c1 0)^h 5 (.alloc [u,u]) .nil^s [(6,i 0)])^(hh [(24,lt 3<|fa 0 4)] 7 (.alloc [z,z,z]) .nil^w 3 7 24)^(cl 25 144 (c2 (lt 5 4) 1)^s [(8,
 25)])^(cl 26 145 (c2 (lt 3 7)<|ln 1)^s [(9,26)])^(h 27 (.bSl [z] 1 [0]) (c1<|i 1)^s [(10,27)])^(s [(11,i 0)]^bk 0 (lo (k (b .lss 11<|ln 1) e (xt 0)^bk 1
 (kq (ld<|ia 1 2 11)<|hh [(32,ad (ln 10)<|i 1),(29,10),(28,lt 3 7)] 30 (.callK 1) (c 7<|c (fn 83)<|c3 (lt 3 7) (i 0)<|ld<|ia 1 9 11)^h 31 (.bSl [z]
 2 [0,1]) (c2 (i 1) 30)^h 33 .callC (c (fn 128)<|c 28<|c3 29 31 32)^s [(10,33)])^s [(11,ad 11<|i 1)])))^(hh [(36,3),(34,lt 3 7)] 35 (.callK 1) (c 7
 (c (fn 128)<|c (lt 3 7)<|c3 8 10<|ln 8))^h 37 .callC (c3 (fn 146) 34<|n2 (.sl 1 true false false) 35 36)^s [(13,ix 1 37),(12,ix 0 37)])^s [(15,.cst
 u),(14,.cst u)]^s [(16,i 0)]^(s [(17,i 0)]^bk 2 (lo<|k (b .lss 17<|ln 1) e (xt 2)^bk 3 ((Stm.hv [(40,p (n1 (.un .not)<|ld<|ia 1 2 17) 12<|.cst (.tuple
 #[])),(39,p (n1 (.un .not)<|ld<|ia 1 2 17) (lt 3 7)<|.cst<|.tuple #[]),(38,n1 (.un .not)<|ld<|ia 1 2 17)] [] [(n1 (.un .not)<|ld<|ia 1 2 17,
 true)] (some 41) (.callK 1) (c 7<|c3 (fn 148) (lt 3 7)<|ld<|ia 1 9 17)^Stm.hv [] [] [(38,true)] (some 42) .callC (c (fn 147)<|c3 39 40 41)^s [(18,p 38
 (b .eql 42<|i 0) f)])^kq 18 (s [(16,ad 16<|i 1)])^kq (p 18 t<|ld<|ia 1 2 17) ((hh [(43,14)] 44 (.bSl [z] 1 [0]) (c1<|ld<|ia 1 9 17)^h 45 (.app 1 [z])
 (c2 43 44)^s [(14,45)])^hh [(46,15)] 47 (.bSl [z] 1 [0]) (c1 17)^h 48 (.app 1 [z]) (c2 46 47)^s [(15,48)]))^s [(17,ad 17<|i 1)]))^kq (p (p (b .neq 16
 13) t<|b .neq 16<|b .sub (ln 12)<|i 1) t<|b .gtr (ad (b .mul (i 2) 16) 3)<|lf 3 4) ((w 2 5 (.node (.build [u,u] []) .nil)^s [(6,i 17)])^r)^(hh [(49,
 .node (.build [u,u] []) .nil)] 19 (.alloc [u,u]) .nil^w 2 19 49)^(h 50 (.app 1 [z]) (c2 (lf 0 19) 1)^w 1 (fa 0 19) 50)^(cl 51 149 (c (lt 3 7)<|c3 8 14 (lf 4
 4))^s [(20,51)])^(s [(21,i 0)]^bk 4 (lo<|k (b .lss 21<|ln 15) e (xt 4)^bk 5 (kq (b .neq (ld<|ia 1 20 21)<|i 0)<|(hh [(53,ld<|ia 1 15 21),(52,lf 0
 19)] 54 (.callK 2) (c (fa 0 19)<|c (ia 1 15 21)<|c (fn 83)<|c3 (lt 3 7) (ld<|ia 1 1<|ld<|ia 1 15 21)<|ld<|ia 1 20 21)^w 1 (ia 1 52 53) 54)^hh [(55,lf
 1 19)] 56 (.bSl [z] 1 [0]) (c1<|ld<|ia 1 15 21)^h 57 (.app 1 [z]) (c2 55 56)^w 1 (fa 1 19) 57)^s [(21,ad 21<|i 1)]))^(cl 58 144 (c2 (lt 5 4) (lf 0
 19))^s [(22,58)])^(s [(23,i 0)]^bk 6 (lo<|k (b .lss 23<|ln 22) e (xt 6)^bk 7 (kq (b .neq (ld<|ia 1 22 23)<|i 0)<|(w 2 5 (.node (.build [u,u] []) .nil)^s
 [(6,i 17)])^r)^s [(23,ad 23<|i 1)]))^(w 2 5 (lt 2 19)^s [(6,i 0)])^r
def M6:Stm:=
 s [(6,f),(5,i 0),(4,i 0),(3,.cst u)]^s [(7,.cst u)]^(s [(8,i 0)]^bk 0 (lo<|k (b .lss 8<|i 2) e (xt 0)^bk 1 (s [(9,b .quo 0<|i 30)]^kq (b .eql 8 (i
 1)) (s [(9,b .rem 0<|i 30)])^(cl 14 150 (c3 1 2 9)^s [(13,ix 3 14),(12,ix 2 14),(11,ix 1 14),(10,ix 0 14)])^kq (n1 (.un .not) 13) (s [(6,f),(5,i
 0),(4,i 0),(3,.cst u)]^r)^kq (b .geq 10<|i 0) (hh [(15,7)] 16 (.bSl [.int .u8 0] 1 [0]) (c1<|n1 (.cvt .u8) 10)^h 17 (.app 1 [.int .u8 0]) (c2 15 16)^s
 [(7,17)])^s [(2,12),(1,11)])^s [(8,ad 8<|i 1)]))^s [(6,t),(5,2),(4,1),(3,7)]^r
def M7:Stm:=
 s [(1,i 0)]^s [(2,i 0)]^bk 0 (lo<|k (p (b .lss 2<|ln 0) (b .lss (ld<|ia 1 0 2)<|i 900) f) e (xt 0)^bk 1 (s [(2,ad 2<|i 1)]))^s [(1,2)]^r
def Fv:Stm:=
 s [(3,i 0),(2,.cst u)]^kq (b .eql 0<|i 902) ((cl 12 151 (c1 1)^s [(5,ix 1 12),(4,ix 0 12)])^(h 13 .s2b (c1 4)^s [(3,5),(2,13)])^r)^s [(6,b .quo (ln
 1)<|i 5)]^kq (p (b .eql 0<|i 924) (b .neq (b .rem (ln 1)<|i 5)<|i 0) f) (s [(3,i 10),(2,.cst u)]^r)^kq (p (b .eql 0<|i 901) (b .gtr (ln 1)<|i 0) f)
 (s [(6,b .quo (b .sub (ln 1)<|i 1)<|i 5)])^s [(7,.cst u)]^(s [(8,i 0)]^bk 0 (lo<|k (b .lss 8 6) e (xt 0)^bk 1 ((cl 14 152 (c1<|.node (.sl 1 true true
 false)<|c3 1 (b .mul (i 5) 8)<|ad (b .mul (i 5) 8)<|i 5)^s [(10,ix 1 14),(9,ix 0 14)])^kq (n1 (.un .not) 10) (s [(3,i 22),(2,.cst u)]^r)^h 15 (.app
 1 [.int .u8 0]) (c2 7 9)^s [(7,15)])^s [(8,ad 8<|i 1)]))^(s [(11,b .mul (i 5) 6)]^bk 2 (lo<|k (b .lss 11<|ln 1) e (xt 2)^bk 3 (kq (b .gtr (ld (ia 1 1
 11))<|i 255) (s [(3,i 22),(2,.cst u)]^r)^hh [(16,7)] 17 (.bSl [.int .u8 0] 1 [0]) (c1<|n1 (.cvt .u8)<|ld<|ia 1 1 11)^h 18 (.app 1 [.int .u8 0]) (c2 16
 17)^s [(7,18)])^s [(11,ad 11<|i 1)]))^s [(3,i 0),(2,7)]^r
def SF:CF:=⟨2,19,[(.var 2),(.var 3)],Fv,.plain⟩
def TV:XN:=[0,1,4,5,6,7,8,9,10,11,12,13,18,22,59,66,80,86,87]
def TW:XN:=[0,1,4,5,6,7,8,22,23,27,28,32,33,38,166,169]
def TX:XN:=[0,1,4,5,6,7,8,9,10,12,13,16,20,116,162,163,164,167]
def TY:XN:=[0,1,2,4,6,7,9,11,19,20,21,24,25,37,38,48,57,58,59,62,63,66,83,84,85,90,106,124,125,126,129,130,136,139]
def M8:Stm:=
 s [(1,f)]^(s [(2,i 2)]^bk 0 (lo<|k (b .leq (b .mul 2 2) 0) e (xt 0)^bk 1 (kq (b .eql (b .rem 0 2)<|i 0)<|s [(1,f)]^r)^s [(2,ad 2<|i 1)]))^s [(1,t)]^r
def GS:CF:=⟨1,3,[(.var 1)],M8,.plain⟩
def TZ:XN:=[0,2,3]
def T4:XN:=[0,1,4,5,6,17,19]
def M9:Stm:=
 (h 1 .box (c1 0)^s [(2,f)])^kq (b .eql (lf 2 1)<|i 0) ((Stm.hv [(3,p (p (b .gtr (lf 1 1)<|i 2) (b .leq (lf 1 1)<|i 4096) f) (n2 (.eqA false [1,1,1]) (lt
 3 1)<|n2 (.build [z,z,z] [(0,1),(1,1)]) (lf 1 1)<|lf 1 1) f)] [] [(p (p (b .gtr (lf 1 1)<|i 2) (b .leq (lf 1 1)<|i 4096) f) (n2 (.eqA false [1,1,
 1]) (lt 3 1)<|n2 (.build [z,z,z] [(0,1),(1,1)]) (lf 1 1)<|lf 1 1) f,true)] (some 4) (.call false) (c2 (fn 109)<|lf 1 1)^s [(2,p 3 4 f)])^r)^(Stm.hv
 [(5,b .lss (lf 2 1)<|i 2)] [] [(b .lss (lf 2 1)<|i 2,false)] (some 6) (.call false) (c2 (fn 159)<|lf 2 1)^kq (p 5 t<|b .gtr 6<|i 12) (s [(2,
 f)]^r))^(hh [(9,lf 2 1),(7,lt 3 1)] 8 (.callK 2) (c 1<|c3 (fa 2 1) (fn 159)<|lf 2 1)^Stm.hv [(10,n2 (.eqA false [1,1,1]) 7<|.node (.build [z,z,z]
 [(0,1),(1,1),(2,1)])<|c3 (i 2) (b .shl (i 1) 8) 9)] [] [(n2 (.eqA false [1,1,1]) 7<|.node (.build [z,z,z] [(0,1),(1,1),(2,1)])<|c3 (i 2) (b
 .shl (i 1) 8) 9,true)] (some 11) .callC (c2 (fn 160)<|lf 2 1)^s [(2,p 10 11 f)])^r
def Ma:Stm:=
 (h 3 .box (c1 0)^s [(4,f)])^s [(4,p (p (p (b .geq 1<|i 1) (b .leq 1<|b .sub (lf 1 3)<|i 2) f) (b .geq 2<|i 0) f) (b .leq 2<|b .sub (lf 1 3)<|i 2) f)]^r
def Mb:Stm:=
 (h 2 .box (c1 0)^s [(3,f)])^(s [(7,i 0),(6,ln 1),(5,1)]^bk 0 (lo<|k (b .lss 7 6) e (xt 0)^bk 1 (s [(4,ld<|ia 1 5 7)]^kq (p (b .lss 4<|i 0) t (b .geq 4
 (lf 1 2))) (s [(3,f)]^r))^s [(7,ad 7<|i 1)]))^s [(3,t)]^r
def Mc:Stm:=
 (h 2 .box (c1 0)^s [(3,i 0)])^s [(3,ld<|ia 1 (lf 2 2)<|b .rem 1<|b .sub (lf 1 2)<|i 1)]^r
def T5:XN:=[0,1,2,4,5,6,7,9,11,13,16,23,24,25,26,27,34]
def T6:XN:=[0,1,2,4,6,7,9,11,12,13,33,36]
def T7:XN:=[0,1,2,3,5,6,7,10,14,16,20,22,23,24,27,28,34,35,36,38,39,45]
def T8:XN:=[0,1,2,3,6,7,8,9,10,11,12,14,26,45,50,51,52,57,60,61,67,71,72,75,77]
def Md:Stm:=
 (h 2 .box (c1 0)^s [(3,f)])^(cl 5 111 (c1<|lt 3 2)^kq (n1 (.un .not) 5) (s [(3,f)]^r))^(s [(8,i 0),(7,ln 1),(6,1)]^bk 0 (lo (k (b .lss 8 7) e (xt 0)^bk
 1 (s [(4,ld<|ia 1 6 8)]^kq (p (b .lss 4<|i 0) t<|b .geq 4<|lf 1 2) (s [(3,f)]^r))^s [(8,ad 8<|i 1)])))^s [(3,t)]^r
def T9:XN:=[0,1,4,5,6,7,8,9,15,25]
def Me:Stm:=
 (h 1 .box (c1 0)^s [(2,f)])^kq (b .eql (lf 0 1)<|i 2) ((cl 4 170 (c1<|lf 1 1)^s [(3,4)])^(Stm.hv [(5,p (p (p (b .geq 3<|i 1) (b .leq 3<|i 12) f) (b .eql
 (lf 1 1)<|b .shl (i 1)<|n1 (.cvt .u64) 3) f) (b .lss (lf 2 1)<|b .shl (i 1)<|n1 (.cvt .u64)<|ad 3<|i 1) f)] [] [(p (p (p (b .geq 3<|i 1) (b .leq 3 (i
 12)) f) (b .eql (lf 1 1)<|b .shl (i 1)<|n1 (.cvt .u64) 3) f) (b .lss (lf 2 1)<|b .shl (i 1)<|n1 (.cvt .u64)<|ad 3<|i 1) f,true)] (some 6) (.call false)
 (c3 (fn 171) (lf 2 1) 3)^s [(2,p 5 6 f)])^r)^(Stm.hv [(7,p (p (p (b .eql (lf 0 1)<|lf 1 1) (b .eql (lf 2 1)<|i 0) f) (b .geq (lf 1 1)<|i 3) f) (b .leq
 (lf 1 1)<|i 4096) f)] [] [(p (p (p (b .eql (lf 0 1)<|lf 1 1) (b .eql (lf 2 1)<|i 0) f) (b .geq (lf 1 1)<|i 3) f) (b .leq (lf 1 1)<|i 4096) f,true)]
 (some 8) (.call false) (c2 (fn 172)<|lf 1 1)^s [(2,p 7 8 f)])^r
def Mf:Stm:=
 (h 2 .box (c1 0)^s [(3,f)])^s [(3,p (b .geq 1<|i 0) (b .lss 1<|lf 1 2) f)]^r
def Mg:Stm:=
 (h 1 .box (c1 0)^s [(2,.cst u)])^(cl 7 173 (c1<|lt 3<|fa 0 1)^s [(3,7)])^s [(4,.cst u)]^(cl 8 174 (c3 (lt 3<|fa 0 1) 3<|lf 4 1)^s [(5,8)])^(s [(6,i
 0)]^bk 0 (lo<|k (b .lss 6<|lf 3 1) e (xt 0)^bk 1 ((hh [(9,4)] 10 (.bSl [z] 1 [0]) (c1 5)^h 11 (.app 1 [z]) (c2 9 10)^s [(4,11)])^cl 12 84 (c3 (lt 3 (fa 0
 1)) 5 3)^s [(5,12)])^s [(6,ad 6<|i 1)]))^s [(2,4)]^r
def Mh:Stm:=
 (h 4 .box (c1 0)^s [(5,.cst u)])^(h 9 (.mkSl [z]) (c2 (n2 (.minmax false) 3<|n2 (.minmax true) (i 0)<|b .sub (ad (ln 1)<|ln 2)<|i 1) (n2 (.minmax false) 3
 (n2 (.minmax true) (i 0)<|b .sub (ad (ln 1)<|ln 2)<|i 1)))^s [(6,9)])^(s [(7,i 0)]^bk 0 (lo (k (b .lss 7<|ln 1) e (xt 0)^bk 1 (s [(8,i 0)]^bk 2 (lo (k
 (p (b .lss 8<|ln 2) (b .lss (ad 7 8)<|ln 6) f) e (xt 2)^bk 3 (hh [(13,ld<|ia 1 6<|ad 7 8),(12,lt 3 4),(11,ad 7 8),(10,6)] 14 (.callK 2) (c 4<|c (ia
 1 6<|ad 7 8)<|c (fn 84)<|c3 (lt 3 4) (ld<|ia 1 1 7)<|ld<|ia 1 2 8)^h 15 .callC (c (fn 82)<|c3 12 13 14)^w 1 (ia 1 10 11) 15)^s [(8,ad 8<|i 1)])))^s
 [(7,ad 7<|i 1)])))^s [(5,6)]^r
def Mi:Stm:=
 s [(2,i 0)]^(cl 5 170 (c1 1)^s [(3,5)])^((cl 6 170 (c1 0)^s [(4,6)])^bk 0 (lo<|k (b .geq 4 3) e (xt 0)^bk 1 (kq (b .eql (b .and (b .shr 0<|n1 (.cvt .u64) 4)
 (i 1))<|i 1)<|s [(0,b .xor 0<|b .shl 1<|n1 (.cvt .u64)<|b .sub 4 3)])^s [(4,b .sub 4<|i 1)]))^s [(2,0)]^r
def Ta:XN:=[0,2,4,5,6,7]
def Mj:Stm:=
 (h 1 .box (c1 0)^s [(3,i 0),(2,i 0)])^(cl 4 119 (c2 (lt 3 1)<|.cst u)^kq (n1 (.un .not) 4) (s [(3,i 1),(2,i 0)]^r))^(cl 5 175 (c1<|lt 3 1)^s [(3,i 0),
 (2,5)])^r
def Mk:Stm:=
 (h 3 .box (c1 0)^s [(5,i 0),(4,i 0)])^(hh [(6,lt 3 3)] 7 (.bSl [z] 2 [0,1]) (c2 1 2)^cl 8 119 (c2 6 7)^kq (n1 (.un .not) 8) (s [(5,i 1),(4,i 0)]^r))^(cl
 9 176 (c3 (lt 3 3) 1 2)^s [(5,i 0),(4,9)])^r
def Ml:Stm:=
 s [(1,f)]^(hh [(2,0)] 3 .callC (c (fn 177)<|c3 (lt 4<|fa 0<|nk 0) (lt 5<|fa 4<|nk 0)<|lf 9<|nk 0)^w 1 (fa 12<|nk 2) 3)^s [(1,b .leq (lf 11<|nk 0)
 (lf 3<|fa 4<|nk 0))]^r
def Mm:Stm:=
 s [(1,f)]^(hh [(4,0)] 5 (.bSl [z] 1 [0]) (c1<|i 1)^w 1 (fa 13<|nk 4) 5)^(s [(8,i 0),(7,ln<|lf 10<|nk 0),(6,lf 10<|nk 0)]^bk 0 (lo (k (b .lss 8 7) e
 (xt 0)^bk 1 (s [(3,ld<|ia 1 6 8),(2,8)]^kq 3 (hh [(16,lt 4<|fa 0<|nk 0),(15,lf 13<|nk 0),(14,fa 13<|nk 0),(13,lf 13<|nk 0),(12,fa 13 (nk
 0)),(11,lt 4<|fa 0<|nk 0),(10,fa 0<|nk 0),(9,0)] 17 (.callK 4) (c (fa 0<|nk 0)<|c (fa 13<|nk 0)<|c (fa 13<|nk 0)<|c (fa 0<|nk 0) (c3 (fn 179) 0
 2))^h 18 (.callK 3) (c 10<|c 12<|c 14<|c3 (fn 114) 16 17)^h 19 .callC (c (fn 178)<|c 11<|c 13<|c3 15 (i 1) 18)^w 1 (fa 13<|nk 9) 19))^s [(8,ad 8 (i
 1))])))^s [(1,t)]^r
def Mn:Stm:=
 s [(1,f)]^(h 3 .callC (c (fn 180)<|c (lt 4<|fa 0<|nk 0)<|c3 (lf 12<|nk 0) (lf 13<|nk 0)<|lf 3<|fa 4<|nk 0)^s [(2,3)])^(hh [(4,0)] 5 .callC (c3 (fn
 181) (lt 4<|fa 0<|nk 0)<|n2 (.sl 1 true false false) 2<|lf 11<|nk 0)^w 1 (fa 14<|nk 4) 5)^s [(1,b .leq (ad (b .mul (i 2)<|b .sub (ln<|lf 14<|nk 0) (i
 1))<|lf 11<|nk 0)<|lf 3<|fa 4<|nk 0)]^r
def Mo:Stm:=
 s [(1,f)]^s [(2,i 0)]^(s [(8,i 0),(7,ln<|lf 10<|nk 0),(6,lf 10<|nk 0)]^bk 0 (lo<|k (b .lss 8 7) e (xt 0)^bk 1 (s [(4,ld<|ia 1 6 8),(3,8)]^(hh
 [(10,b .sub (lf 1<|fa 0<|nk 0)<|i 1),(9,lt 4<|fa 0<|nk 0)] 11 (.callK 2) (c (fa 0<|nk 0)<|c (fa 1<|fa 0<|nk 0)<|c3 (fn 179) 0 3)^h 12 .callC (c3
 (fn 114) 9<|b .sub 10 11)^s [(5,12)])^Stm.hv [(13,n1 (.un .not) 4)] [] [(n1 (.un .not) 4,true)] (some 14) .callC (c (fn 182)<|c3 (lt 4<|fa 0<|nk 0) (lf
 14<|nk 0) 5)^k (p 13 (b .eql 14<|i 0) f) (s [(2,ad 2<|i 1)]^hh [(16,lf 15<|nk 0),(15,0)] 17 (.bSl [z] 1 [0]) (c1 3)^h 18 (.app 1 [z]) (c2 16 17)^w 1
 (fa 15<|nk 15) 18) (kq 4<|hh [(20,lf 15<|nk 0),(19,0)] 21 (.bSl [z] 1 [0]) (c1 3)^h 22 (.app 1 [z]) (c2 20 21)^w 1 (fa 15<|nk 19) 22))^s [(8,ad 8 (i
 1))]))^s [(1,b .eql 2<|b .sub (ln<|lf 14<|nk 0)<|i 1)]^r
def Mp:Stm:=
 s [(1,f)]^(h 9 .callC (c (fn 180)<|c (lt 4<|fa 0<|nk 0)<|c3 (lf 13<|nk 0) (lf 14<|nk 0)<|b .sub (ad (ln<|lf 13<|nk 0)<|ln<|lf 14<|nk 0)<|i 1)^s
 [(2,9)])^(h 10 .callC (c (fn 180)<|c (lt 4<|fa 0<|nk 0)<|c3 (lf 12<|nk 0) 2<|lf 3<|fa 4<|nk 0)^s [(3,10)])^(cl 11 183 (c2 (lt 4<|fa 0<|nk 0) 2)^s
 [(4,11)])^(s [(14,i 0),(13,ln<|lf 15<|nk 0),(12,lf 15<|nk 0)]^bk 0 (lo<|k (b .lss 14 13) e (xt 0)^bk 1 (s [(5,ld<|ia 1 12 14)]^(hh [(16,b .sub (lf
 1<|fa 0<|nk 0)<|i 1),(15,lt 4<|fa 0<|nk 0)] 17 (.callK 2) (c (fa 0<|nk 0)<|c (fa 1<|fa 0<|nk 0)<|c3 (fn 179) 0 5)^h 18 .callC (c3 (fn 114) 15 (b
 .sub 16 17))^s [(6,18)])^(hh [(21,b .sub (ad (lf 4<|fa 4<|nk 0)<|lf 1<|fa 0<|nk 0)<|i 2),(19,lt 4<|fa 0<|nk 0)] 20 (.callK 3) (c (fa 0<|nk 0) (c
 (fa 4<|fa 4<|nk 0)<|c (fa 1<|fa 0<|nk 0)<|c3 (fn 179) 0 5))^h 22 .callC (c3 (fn 114) 19<|b .mul 20 21)^s [(7,22)])^(hh [(24,7),(23,lt 4<|fa 0 (nk
 0))] 25 (.callK 1) (c (fa 0<|nk 0)<|c (fn 182)<|c3 (lt 4<|fa 0<|nk 0) 4 6)^h 26 .callC (c (fn 184)<|c3 23 24 25)^s [(8,26)])^kq (b .eql 8<|i 0) (s
 [(1,f)]^r)^hh [(37,8),(35,lt 4<|fa 0<|nk 0),(34,ld<|ia 1 (lf 9<|nk 0) 5),(33,ia 1 (lf 9<|nk 0) 5),(32,fa 9<|nk 0),(31,lt 4<|fa 0<|nk 0),
 (30,fa 0<|nk 0),(29,5),(28,lf 9<|nk 0),(27,fa 9<|nk 0)] 36 (.callK 5) (c (fa 9<|nk 0)<|c (fa 0<|nk 0)<|c (fa 9<|nk 0) (c (ia 1 (lf 9<|nk 0) 5)
 (c (fa 0<|nk 0)<|c (fn 182)<|c3 (lt 4<|fa 0<|nk 0) 3 6)))^h 38 (.callK 4) (c 27<|c 30<|c 32<|c 33<|c (fn 186)<|c3 35 36 37)^h 39 (.callK 1) (c 27
 (c (fn 185)<|c3 31 34 38))^w 1 (ia 1 28 29) 39)^s [(14,ad 14<|i 1)]))^s [(1,t)]^r
def Mq:Stm:=
 s [(1,f)]^((hh [(5,i 0)] 3 .callC (c (fn 177)<|c3 (lt 4<|fa 0<|nk 0) (lt 5<|fa 4<|nk 0)<|lf 9<|nk 0)^s [(4,ln 3)])^bk 0 (lo<|k (b .lss 5 4) e (xt
 0)^bk 1 (s [(2,ld<|ia 1 3 5)]^kq (b .neq 2<|i 0) (s [(1,f)]^r))^s [(5,ad 5<|i 1)]))^s [(1,t)]^r
def Fw:Stm:=
 (cl 5 187 (c2 (lt 2<|fa 2<|nk 0) 1)^hh [(8,ix 2 5),(7,ix 1 5),(6,ix 0 5)] 2 (.alloc [z,z]) .nil^w 2 2 6^s [(4,8),(3,7)])^kq (n1 (.un .not) 4) (v .pan
 (c1<|n1 (.mkI 169)<|n1 (.build [z] [(0,1)])<|i 22))^kq (b .geq 3<|i 0) (hh [(10,lf 4<|nk 0),(9,0)] 11 (.bSl [.int .u8 0] 1 [0]) (c1 (n1 (.cvt .u8)
 3))^h 12 (.app 1 [.int .u8 0]) (c2 10 11)^w 1 (fa 4<|nk 9) 12)^w 2 (fa 2<|nk 0) (lt 2 2)
def yq:CF:=⟨2,13,[],Fw,.plain⟩
def Tb:XN:=[0,1,4,5,6,13,14,15,16,23,27,30,31]
def Fx:Stm:=
 kq (b .eql (lf 1<|nk 0)<|ln<|lf 0<|nk 0) (v .pan<|c1<|n1 (.mkI 169)<|n1 (.build [z] [(0,1)])<|i 10)^s [(1,ld<|ia 1 (lf 0<|nk 0)<|lf 1<|nk 0)]^kq
 (b .gtr 1<|i 255) (v .pan<|c1<|n1 (.mkI 169)<|n1 (.build [z] [(0,1)])<|i 22)^w 1 (fa 1<|nk 0) (ad (lf 1<|nk 0)<|i 1)^(hh [(3,lf 4<|nk 0),(2,0)] 4
 (.bSl [.int .u8 0] 1 [0]) (c1<|n1 (.cvt .u8) 1)^h 5 (.app 1 [.int .u8 0]) (c2 3 4)^w 1 (fa 4<|nk 2) 5)^w 1 (fa 1<|fa 2<|nk 0) (i 0)
def CO:CF:=⟨1,6,[],Fx,.plain⟩
def Tc:XN:=[0,2,36,40,43,44]
def Fy:Stm:=
 s [(2,lf 1<|nk 0)]^bk 0 (lo<|k (p (b .lss 2<|ln<|lf 0<|nk 0) (b .lss (ld<|ia 1 (lf 0<|nk 0) 2)<|i 900) f) e (xt 0)^bk 1 (s [(2,ad 2<|i 1)]))^s [(3,
 .node (.sl 1 true true false)<|c3 (lf 0<|nk 0) (lf 1<|nk 0) 2)]^w 1 (fa 1<|nk 0) 2^kq (p (b .eql 1<|i 924) (b .neq (b .rem (ln 3)<|i 5)<|i 0) f) (v
 .pan<|c1<|n1 (.mkI 169)<|n1 (.build [z] [(0,1)])<|i 10)^kq (p (b .lss 2<|ln<|lf 0<|nk 0) (b .eql (ld<|ia 1 (lf 0<|nk 0) 2)<|i 913) f) (v .pan (c1
 (n1 (.mkI 169)<|n1 (.build [z] [(0,1)])<|i 22)))^s [(6,1)]^bk 2 (k (b .eql 6<|i 924) (v (.call false)<|c (fn 188)<|c3 0 3<|b .quo (ln 3)<|i 5)<|k (b
 .eql 6<|i 901) (v (.call false)<|c (fn 188)<|c3 0 3<|b .quo (b .sub (ln 3)<|i 1)<|i 5)<|(cl 7 189 (c1 3)^s [(5,ix 1 7),(4,ix 0 7)])^kq (n1 (.un .not)
 5) (v .pan<|c1<|n1 (.mkI 169)<|n1 (.build [z] [(0,1)])<|i 22)^hh [(8,0)] 9 (.appS [.int .u8 0]) (c2 (lf 4<|nk 0) 4)^w 1 (fa 4<|nk 8) 9)
def vV:CF:=⟨2,10,[],Fy,.plain⟩
def Td:XN:=[0,1,4,5,6,7,74,77,84,90]
def Te:XN:=[0,2]
def Mr:Stm:=
 s [(1,.cst u)]^s [(2,.cst u)]^kq (n1 (.un .not)<|ld<|ia 1 0<|i 0) (s [(1,.cst u)]^r)^s [(3,i 0)]^(s [(4,i 0)]^bk 0 (lo (k (b .lss 4<|ln 0) e (xt 0)^bk
 1 (s [(3,ad 3<|i 1)]^kq (p (b .eql (ad 4<|i 1)<|ln 0) t<|n2 (.eqB true) (ld<|ia 1 0<|ad 4<|i 1)<|ld<|ia 1 0 4) ((hh [(5,2)] 6 (.bSl [z] 1 [0]) (c1
 3)^h 7 (.app 1 [z]) (c2 5 6)^s [(2,7)])^s [(3,i 0)]))^s [(4,ad 4<|i 1)])))^s [(1,2)]^r
def Ms:Stm:=
 (h 2 .box (c1 0)^s [(3,.cst u)])^(cl 7 127 (c1<|lt 5 2)^s [(4,7)])^s [(5,.cst u)]^(s [(6,i 0)]^bk 0 (lo<|k (b .lss 6<|ln 4) e (xt 0)^bk 1 (hh [(8,5)] 9
 .callC (c (fn 190)<|c3 (lt 3<|fa 0 2) 1<|ld<|ia 1 4 6)^h 10 (.bSl [z] 1 [0]) (c1 9)^h 11 (.app 1 [z]) (c2 8 10)^s [(5,11)])^s [(6,ad 6<|i 1)]))^s [(3,
 5)]^r
def Mt:Stm:=
 (h 2 .box (c1 0)^s [(3,.cst u)])^(cl 8 173 (c1<|lt 3 2)^s [(4,8)])^(h 9 (.mkSl [z]) (c2 1 1)^s [(5,9)])^s [(6,i 1)]^(s [(7,b .sub 1<|i 1)]^bk 0 (lo<|k (b
 .geq 7<|i 0) e (xt 0)^bk 1 (w 1 (ia 1 5 7) 6^cl 10 84 (c3 (lt 3 2) 6 4)^s [(6,10)])^s [(7,b .sub 7<|i 1)]))^s [(3,5)]^r
def Mu:Stm:=
 (h 2 .box (c1 0)^s [(4,i 0),(3,.cst u)])^(h 14 (.bSl [z] 1 [0]) (c1<|i 1)^h 15 (.bSl [z] 1 [0]) (c1<|i 1)^s [(6,15),(5,14)])^s [(9,i 1),(8,i 1),(7,
 i 0)]^(s [(10,i 0)]^bk 0 (lo<|k (b .lss 10<|ln 1) e (xt 0)^bk 1 (s [(11,i 0)]^(s [(12,i 0)]^bk 2 (lo<|k (b .leq 12 7) e (xt 2)^bk 3 (hh [(20,ld (ia 1 1
 (b .sub 10 12))),(18,lt 3 2),(17,11),(16,lt 3 2)] 19 (.callK 3) (c 2<|c 2<|c (ia 1 1<|b .sub 10 12)<|c3 (fn 191) 5 12)^h 21 (.callK 1) (c 2<|c (fn
 84)<|c3 18 19 20)^h 22 .callC (c (fn 82)<|c3 16 17 21)^s [(11,22)])^s [(12,ad 12<|i 1)]))^kq (b .eql 11<|i 0) (s [(8,ad 8<|i 1)]^xt 1)^(hh [(30,8),
 (27,11),(26,lt 3 2),(25,6),(24,5),(23,lt 3 2)] 28 (.callK 2) (c 2<|c 2<|c3 (fn 148) (lt 3 2) 9)^h 29 (.callK 1) (c 2<|c (fn 84)<|c3 26 27 28)^h
 31 .callC (c (fn 192)<|c 23<|c 24<|c3 25 29 30)^s [(13,31)])^k (b .leq (b .mul (i 2) 7) 10) (s [(6,5)]^s [(7,b .sub (ad 10<|i 1) 7)]^s [(9,11)]^s [(8,
 i 1)]) (s [(8,ad 8<|i 1)])^s [(5,13)])^s [(10,ad 10<|i 1)]))^bk 4 (lo<|k (b .eql (ld<|ia 1 5<|b .sub (ln 5)<|i 1)<|i 0) e (xt 4)^bk 5 (s [(5,n2
 (.sl 1 false true false) 5<|b .sub (ln 5)<|i 1)]))^s [(4,7),(3,5)]^r
def Mw:Stm:=
 (h 3 .box (c1 0)^s [(4,i 0)])^s [(5,i 0)]^(s [(6,b .sub (ln 1)<|i 1)]^bk 0 (lo<|k (b .geq 6<|i 0) e (xt 0)^bk 1 (hh [(9,ld<|ia 1 1 6),(7,lt 3 3)] 8
 (.callK 2) (c 3<|c (ia 1 1 6)<|c (fn 84)<|c3 (lt 3 3) 5 2)^h 10 .callC (c (fn 82)<|c3 7 8 9)^s [(5,10)])^s [(6,b .sub 6<|i 1)]))^s [(4,5)]^r
def Mx:Stm:=
 (h 2 .box (c1 0)^s [(3,i 0)])^(cl 4 174 (c3 (lt 3 2) 1<|b .sub (lf 1 2)<|i 2)^s [(3,4)])^r
def My:Stm:=
 (h 4 .box (c1 0)^s [(5,.cst u)])^(h 14 (.bSl [z] 1 [0]) (c1<|i 1)^s [(6,14)])^(s [(7,i 0)]^bk 0 (lo<|k (b .lss 7<|ln 2) e (xt 0)^bk 1 (hh [(19,ad (ln 6)
 (i 1)),(16,6),(15,lt 3 4)] 17 (.callK 1) (c 4<|c (fn 83)<|c3 (lt 3 4) (i 0)<|ld<|ia 1 2 7)^h 18 (.bSl [z] 2 [0,1]) (c2 (i 1) 17)^h 20 .callC (c (fn
 128)<|c 15<|c3 16 18 19)^s [(6,20)])^s [(7,ad 7<|i 1)]))^(cl 21 128 (c (lt 3 4)<|c3 1 6<|ln 1)^s [(8,21)])^s [(9,.cst u)]^(s [(10,i 0)]^bk 2 (lo (k
 (b .lss 10<|ln 2) e (xt 2)^bk 3 ((h 22 .callC (c3 (fn 148) (lt 3 4)<|ld<|ia 1 2 10)^s [(11,22)])^(h 23 .callC (c (fn 174) (c3 (lt 3 4) (ld<|ia 1 2 10)
 3))^s [(12,23)])^(s [(13,i 0)]^bk 4 (lo (k (b .lss 13<|ln 2) e (xt 4)^bk 5 (kq (b .neq 13 10)<|hh [(26,lt 3 4),(25,12),(24,lt 3 4)] 27 (.callK 2) (c 4
 (c 4<|c (fn 84)<|c3 (lt 3 4) (ld<|ia 1 2 13) 11))^h 28 (.callK 1) (c 4<|c (fn 83)<|c3 26 (i 1) 27)^h 29 .callC (c (fn 84)<|c3 24 25 28)^s [(12,29)])^s
 [(13,ad 13<|i 1)])))^hh [(34,12),(33,lt 3 4),(31,lt 3 4),(30,9)] 32 (.callK 2) (c 4<|c 4<|c (fn 147)<|c3 (lt 3 4) 8 11)^h 35 (.callK 1) (c 4 (c3
 (fn 148) 33 34))^h 36 .callC (c (fn 84)<|c3 31 32 35)^h 37 (.bSl [z] 1 [0]) (c1 36)^h 38 (.app 1 [z]) (c2 30 37)^s [(9,38)])^s [(10,ad 10<|i 1)])))^s [(5,
 9)]^r
def Mz:Stm:=
 s [(6,f),(5,i 0),(4,i 0),(3,i 0)]^kq (b .eql 1<|i 1) (kq (b .eql 2<|i 29) (s [(6,f),(5,i 0),(4,i 0),(3,i 0)]^r)^s [(6,t),(5,i 0),(4,0),(3,
 n1 (.cvt .i64)<|n2 .idxS (.cst<|.string ⟨ #[59,60,62,64,91,92,93,95,96,126,33,13,9,44,58,10,45,46,36,47,34,124,42,40,41,63,123,125,
 39] ⟩) 2)]^r)^kq (b .eql 1<|i 2) (kq (b .gtr 2<|i 26) (s [(6,f),(5,i 0),(4,i 0),(3,i 0)]^r)^s [(6,t),(5,i 0),(4,0),(3,n1 (.cvt .i64) (n2
 .idxS (.cst<|.string ⟨ #[65,66,67,68,69,70,71,72,73,74,75,76,77,78,79,80,81,82,83,84,85,86,87,88,89,90,32] ⟩) 2))]^r)^kq (b .eql 0
 (i 3)) (kq (b .eql 2<|i 29) (s [(6,t),(5,i 0),(4,i 0),(3,i<|-1)]^r)^s [(6,t),(5,i 0),(4,0),(3,n1 (.cvt .i64)<|n2 .idxS (.cst<|.string ⟨ #[59,
 60,62,64,91,92,93,95,96,126,33,13,9,44,58,10,45,46,36,47,34,124,42,40,41,63,123,125,39] ⟩) 2)]^r)^kq (b .eql 2<|i 29) (s [(6,
 t),(5,i 1),(4,0),(3,i<|-1)]^r)^kq (b .eql 0<|i 2) (kq (b .eql 2<|i 25) (s [(6,t),(5,i 0),(4,i 3),(3,i<|-1)]^r)^kq (b .eql 2<|i 26) (s [(6,
 t),(5,i 0),(4,0),(3,i 32)]^r)^kq (b .eql 2<|i 27) (s [(6,t),(5,i 0),(4,i 1),(3,i<|-1)]^r)^kq (b .eql 2<|i 28) (s [(6,t),(5,i 0),(4,i 0),
 (3,i<|-1)]^r)^s [(6,t),(5,i 0),(4,0),(3,n1 (.cvt .i64)<|n2 .idxS (.cst<|.string ⟨ #[48,49,50,51,52,53,54,55,56,57,38,13,9,44,58,35,
 45,46,36,47,43,37,42,61,94] ⟩) 2)]^r)^kq (b .eql 2<|i 28) (s [(6,t),(5,i 0),(4,i 2),(3,i<|-1)]^r)^kq (b .eql 0<|i 0) (kq (b .eql 2<|i 27)
 (s [(6,t),(5,i 0),(4,i 1),(3,i<|-1)]^r)^s [(6,t),(5,i 0),(4,0),(3,n1 (.cvt .i64)<|n2 .idxS (.cst<|.string ⟨ #[65,66,67,68,69,70,71,72,
 73,74,75,76,77,78,79,80,81,82,83,84,85,86,87,88,89,90,32] ⟩) 2)]^r)^kq (b .eql 2<|i 27) (s [(6,t),(5,i 2),(4,0),(3,i<|-1)]^r)^s
 [(6,t),(5,i 0),(4,0),(3,n1 (.cvt .i64)<|n2 .idxS (.cst<|.string ⟨ #[97,98,99,100,101,102,103,104,105,106,107,108,109,110,111,112,113,
 114,115,116,117,118,119,120,121,122,32] ⟩) 2)]^r
def NA:Stm:=
 s [(2,i 0),(1,.cst<|.string ⟨ #[] ⟩)]^kq (b .gtr (ln 0)<|i 8192) (s [(2,i 4),(1,.cst<|.string ⟨ #[] ⟩)]^r)^(s [(3,i 0)]^bk 0 (lo (k (b .lss 3<|ln 0)
 e (xt 0)^bk 1 (kq (p (b .lss (ld<|ia 1 0 3)<|i 0) t<|b .gtr (ld<|ia 1 0 3)<|i 899)<|s [(2,i 3),(1,.cst<|.string ⟨ #[] ⟩)]^r)^s [(3,ad 3 (i
 1))])))^s [(4,.cst<|.string ⟨ #[] ⟩)]^(s [(5,i 0)]^bk 2 (lo<|k (b .lss 5<|ln 0) e (xt 2)^bk 3 (s [(6,.node (.sl 1 true true false)<|c3 0 5<|n2 (.minmax
 false) (ad 5<|i 15)<|ln 0)]^(cl 9 193 (c1 6)^s [(7,9)])^s [(8,b .geq (ad 5<|i 15)<|ln 0)]^(Stm.hv [(10,p (p (p (b .neq (n2 .idxS 7<|i 0)<|.cst (.int
 .u8 49)) t<|b .gtr (n1 .lenS 7)<|i 45) t<|b .eql (n1 .lenS 7)<|i 1) t<|p (n1 (.un .not) 8) (b .neq (n1 .lenS 7)<|i 45) f)] [] [(p (p (p (b .neq (n2
 .idxS 7<|i 0)<|.cst<|.int .u8 49) t<|b .gtr (n1 .lenS 7)<|i 45) t<|b .eql (n1 .lenS 7)<|i 1) t<|p (n1 (.un .not) 8) (b .neq (n1 .lenS 7)<|i 45) f,
 false)] (some 11) (.call false) (c2 (fn 169)<|n2 (.slS true false) 7<|i 1)^Stm.hv [] [] [(10,false)] (some 12) (.call false) (c3 (fn 194) 11 6)^kq (p 10 t
 (n1 (.un .not) 12)) (s [(2,i 22),(1,.cst<|.string ⟨ #[] ⟩)]^r))^s [(4,ad 4<|n2 (.slS true false) 7<|i 1)])^s [(5,ad 5<|i 15)]))^s [(2,i 0),(1,
 4)]^r
def NB:Stm:=
 s [(2,f),(1,.cst u)]^s [(3,i 0)]^(s [(4,i 0)]^bk 0 (lo<|k (b .lss 4<|i 5) e (xt 0)^bk 1 (s [(3,ad (b .mul (i 900) 3)<|ld<|ia 1 0 4)])^s [(4,ad 4 (i
 1))]))^kq (b .geq 3<|i 281474976710656) (s [(2,f),(1,.cst u)]^r)^s [(5,.cst u)]^(s [(6,i 5)]^bk 2 (lo<|k (b .geq 6<|i 0) e (xt 2)^bk 3 (hh [(7,5)] 8
 (.bSl [.int .u8 0] 1 [0]) (c1<|n1 (.cvt .u8)<|b .shr 3<|n1 (.cvt .u64)<|b .mul (i 8) 6)^h 9 (.app 1 [.int .u8 0]) (c2 7 8)^s [(5,9)])^s [(6,b .sub 6 (i
 1))]))^s [(2,t),(1,5)]^r
def Tf:XN:=[0,1,4,5]
def Tg:XN:=[0,1,2,6,7,8,9,10,11,12,13,14,15,16,20,22,25,26,27,28,31,41,42,43,44,46,50,53,55,57,58]
def Th:XN:=[0,1,2]
def Ti:XN:=[0,2,15]
def Tj:XN:=[0,1,3,4,5,6,8,9,20,39,54,55,75,76,77,89,90,102,112,117,118]
def Tk:XN:=[0,1,2,4,6,7,8,9,18,19,20,22,24,26,29,30,32,35,36,40,47,50,53,58,61,63,64]
def NC:Stm:=
 s [(1,i 0)]^(cl 2 200 (c1<|n1 (.cvt .u64) 0)^s [(1,b .sub 2<|i 1)])^r
def ND:Stm:=
 s [(1,f)]^(s [(2,i 2)]^bk 0 (lo<|(cl 3 159 (c1 2)^hh [(4,b .mul (i 2) 3)] 5 (.call false) (c2 (fn 159) 0)^k (b .leq 4 5) e (xt 0))^bk 1 (cl 6 201 (c2 0 2)^kq
 (b .eql 6<|i 0) (s [(1,f)]^r))^s [(2,ad 2<|i 1)]))^s [(1,t)]^r
def Tl:XN:=[0,1,2,4,6,7,8,9]
def Tm:XN:=[0,1,2,3,4,8,9,10,11,15,19,20,21,26,27,28,32,36,37]
def Tn:XN:=[0,1,2,3,6]
def To:XN:=[0,1,2,3,6]
def Tp:XN:=[0,1,2,3,6]
def Tq:XN:=[0,1,4,5,6]
def Tr:XN:=[0,1,4,5,6,7,8,9,10,11,12,13]
def NG:Stm:=
 s [(1,.cst u)]^(h 9 (.bSl [z] 1 [0]) (c1<|i 1)^s [(2,9)])^(s [(3,i 0)]^bk 0 (lo<|k (b .lss 3<|n1 .lenS 0) e (xt 0)^bk 1 (hh [(10,2)] 11 (.bSl [z] 1 [0])
 (c1<|n1 (.cvt .i64)<|b .sub (n2 .idxS 0 3)<|.cst<|.int .u8 48)^h 12 (.app 1 [z]) (c2 10 11)^s [(2,12)])^s [(3,ad 3<|i 1)]))^s [(4,.cst u)]^bk 2 (lo
 (k (b .gtr (ln 2)<|i 0) e (xt 2)^bk 3 (s [(5,.cst u)]^s [(6,i 0)]^(s [(7,i 0)]^bk 4 (lo<|k (b .lss 7<|ln 2) e (xt 4)^bk 5 (s [(6,ad (b .mul (i 10) 6)
 (ld<|ia 1 2 7))]^kq (p (b .gtr (ln 5)<|i 0) t<|b .geq 6<|i 900) (hh [(13,5)] 14 (.bSl [z] 1 [0]) (c1<|b .quo 6<|i 900)^h 15 (.app 1 [z]) (c2 13 14)^s
 [(5,15)])^s [(6,b .rem 6<|i 900)])^s [(7,ad 7<|i 1)]))^s [(8,.cst u)]^(hh [(16,8)] 17 (.bSl [z] 1 [0]) (c1 6)^h 18 (.app 1 [z]) (c2 16 17)^s [(8,
 18)])^(h 19 (.app 1 [z]) (c2 8 4)^s [(8,19)])^s [(4,8)]^s [(2,5)])))^s [(1,4)]^r
def Fz:Stm:=
 s [(1,i 0)]^s [(2,i<|-1)]^bk 0 (lo<|k (b .gtr 0<|i 0) e (xt 0)^bk 1 (s [(0,b .quo 0<|i 2)]^s [(2,ad 2<|i 1)]))^s [(1,2)]^r
def NH:Stm:=
 s [(2,f)]^(Stm.hv [(4,b .lss 0<|i 0)] [] [(b .lss 0<|i 0,false)] (some 5) (.call false) (c2 (fn 170) 0)^kq (p 4 t<|b .neq 5 1) (s [(2,f)]^r))^(s [(3,i
 2)]^bk 0 (lo<|(cl 6 170 (c1 3)^k (b .leq (b .mul (i 2) 6) 1) e (xt 0))^bk 1 (cl 7 129 (c2 0 3)^kq (b .eql 7<|i 0) (s [(2,f)]^r))^s [(3,ad 3<|i 1)]))^s
 [(2,t)]^r
def NI:Stm:=
 s [(1,f)]^(s [(2,i 2)]^bk 0 (lo<|k (b .leq (b .mul 2 2) 0) e (xt 0)^bk 1 (kq (b .eql (b .rem 0 2)<|i 0)<|s [(1,f)]^r)^s [(2,ad 2<|i 1)]))^s [(1,b .geq
 0<|i 2)]^r
def NJ:Stm:=
 (h 1 .box (c1 0)^s [(2,i 0)])^(s [(3,i 1)]^bk 0 (lo<|k (b .lss 3<|lf 1 1) e (xt 0)^bk 1 (hh [(5,b .sub (lf 1 1)<|i 1)] 4 (.callK 1) (c (fa 1 1)<|c3 (fn
 202) (lt 3 1) 3)^kq (b .eql 4 5) (s [(2,3)]^r))^s [(3,ad 3<|i 1)]))^s [(2,i 0)]^r
def NK:Stm:=
 (h 3 .box (c1 0)^s [(4,i 0)])^s [(5,i 1)]^bk 0 (lo<|k (b .gtr 2<|i 0) e (xt 0)^bk 1 (kq (b .eql (b .rem 2<|i 2)<|i 1) (cl 6 84 (c3 (lt 3 3) 5 1)^s [(5,
 6)])^(cl 7 84 (c3 (lt 3 3) 1 1)^s [(1,7)])^s [(2,b .quo 2<|i 2)]))^s [(4,5)]^r
def NL:Stm:=
 (h 1 .box (c1 0)^s [(2,i 0)])^s [(3,i 1)]^bk 0 (lo<|(hh [(5,b .sub (lf 1 1)<|i 1)] 4 (.callK 1) (c (fa 1 1)<|c3 (fn 203) (lt 3 1) 3)^k (b .neq 4 5) e (xt
 0))^bk 1 (s [(3,ad 3<|i 1)]))^s [(2,3)]^r
def GA:Stm:=
 (h 3 .box (c1 0)^s [(4,i 0)])^kq (b .eql (lf 2 3)<|i 0) (s [(4,b .rem (b .mul 1 2)<|lf 1 3)]^r)^s [(5,i 0)]^bk 0 (lo<|k (b .gtr 2<|i 0) e (xt 0)^bk 1 (kq
 (b .eql (b .and 2<|i 1)<|i 1) (s [(5,b .xor 5 1)])^s [(1,b .shl 1<|.cst<|.int .u64 1)]^kq (b .geq 1<|lf 1 3) (s [(1,b .xor 1<|lf 2 3)]))^s [(2,b
 .shr 2<|.cst<|.int .u64 1)])^s [(4,5)]^r
def GU:CF:=⟨3,6,[(.var 4)],GA,.plain⟩
def Tt:XN:=[0,1,2,3,6,7]
def NM:Stm:=
 (h 3 .box (c1 0)^h 4 .box (c1 1)^s [(5,.cst u)])^(h 10 (.mkSl [z]) (c2 (lf 3 4)<|lf 3 4)^s [(6,10)])^(s [(12,i 0),(11,ln 6)]^bk 0 (lo (k (b .lss 12 11) e
 (xt 0)^bk 1 (s [(7,12)]^(cl 13 114 (c2 (lt 4 3)<|ad (lf 4 4) 7)^s [(8,13)])^s [(16,i 0),(15,ln 2),(14,2)]^bk 2 (lo<|k (b .lss 16 15) e (xt 2)^bk 3 (s
 [(9,ld<|ia 1 14 16)]^hh [(21,9),(19,lt 4 3),(18,7),(17,6)] 20 (.callK 1) (c 3<|c (fn 184)<|c3 (lt 4 3) (ld<|ia 1 6 7) 8)^h 22 .callC (c (fn 185)
 (c3 19 20 21))^w 1 (ia 1 17 18) 22)^s [(16,ad 16<|i 1)]))^s [(12,ad 12<|i 1)])))^s [(5,6)]^r
def NN:Stm:=
 (h 5 .box (c1 0)^s [(6,.cst u)])^(h 10 (.mkSl [z]) (c2 (n2 (.minmax true) (ln 1)<|ad (ln 2) 3)<|n2 (.minmax true) (ln 1)<|ad (ln 2) 3)^s [(7,10)])^v (.cpy
 1) (c2 7 1)^(s [(13,i 0),(12,ln 2),(11,2)]^bk 0 (lo<|k (b .lss 13 12) e (xt 0)^bk 1 (s [(9,ld<|ia 1 11 13),(8,13)]^hh [(17,ld<|ia 1 7<|ad 8 3),
 (16,lt 4 5),(15,ad 8 3),(14,7)] 18 (.callK 2) (c 5<|c (ia 1 7<|ad 8 3)<|c (fn 184)<|c3 (lt 4 5) 4 9)^h 19 .callC (c (fn 204)<|c3 16 17 18)^w 1 (ia 1
 14 15) 19)^s [(13,ad 13<|i 1)]))^s [(6,7)]^r
def NO:Stm:=
 s [(2,i 0)]^s [(2,b .sub (b .sub (ln<|lf 9<|nk 0)<|i 1) 1)]^r
def NP:Stm:=
 (h 4 .box (c1 0)^s [(5,.cst u)])^(h 10 (.mkSl [z]) (c2 3 3)^s [(6,10)])^(s [(13,i 0),(12,ln 1),(11,1)]^bk 0 (lo<|k (b .lss 13 12) e (xt 0)^bk 1 (s [(8,
 ld<|ia 1 11 13),(7,13)]^s [(9,i 0)]^bk 2 (lo<|k (p (b .lss 9<|ln 2) (b .lss (ad 7 9) 3) f) e (xt 2)^bk 3 (hh [(17,ld<|ia 1 6<|ad 7 9),(16,lt 4 4),
 (15,ad 7 9),(14,6)] 18 (.callK 2) (c 4<|c (ia 1 6<|ad 7 9)<|c (fn 184)<|c3 (lt 4 4) 8<|ld<|ia 1 2 9)^h 19 .callC (c (fn 185)<|c3 16 17 18)^w 1 (ia 1
 14 15) 19)^s [(9,ad 9<|i 1)]))^s [(13,ad 13<|i 1)]))^s [(5,6)]^r
def NQ:Stm:=
 (h 2 .box (c1 0)^s [(3,.cst u)])^(h 14 (.bSl [z] 1 [0]) (c1<|i 1)^h 15 (.bSl [z] 1 [0]) (c1<|i 1)^s [(5,15),(4,14)])^s [(8,i 1),(7,i 1),(6,i 0)]^(s
 [(17,i 0),(16,ln 1)]^bk 0 (lo<|k (b .lss 17 16) e (xt 0)^bk 1 (s [(9,17)]^s [(10,i 0)]^(s [(11,i 0)]^bk 2 (lo (k (p (b .leq 11 6) (b .lss 11<|ln 4) f)
 e (xt 2)^bk 3 (hh [(19,10),(18,lt 4 2)] 20 (.callK 1) (c 2<|c (fn 184)<|c3 (lt 4 2) (ld<|ia 1 4 11)<|ld<|ia 1 1<|b .sub 9 11)^h 21 .callC (c (fn 185)
 (c3 18 19 20))^s [(10,21)])^s [(11,ad 11<|i 1)])))^kq (b .eql 10<|i 0) (s [(7,ad 7<|i 1)]^xt 1)^(hh [(25,7),(24,5),(23,4),(22,lt 4 2)] 26 (.callK
 1) (c 2<|c (fn 186)<|c3 (lt 4 2) 10 8)^h 27 .callC (c (fn 178)<|c 22<|c 23<|c3 24 25 26)^s [(12,27)])^k (b .leq (b .mul (i 2) 6) 9) (s [(7,i 1),(8,
 10),(6,b .sub (ad 9<|i 1) 6),(5,4)]) (s [(7,ad 7<|i 1)])^s [(4,12)])^s [(17,ad 17<|i 1)]))^s [(13,ln 4)]^bk 4 (lo<|k (b .eql (ld<|ia 1 4 (b .sub
 13<|i 1))<|i 0) e (xt 4)^bk 5 (s [(13,b .sub 13<|i 1)]))^s [(3,n2 (.sl 1 false true false) 4 13)]^r
def NR:Stm:=
 (h 3 .box (c1 0)^s [(4,i 0)])^s [(5,i 0)]^(s [(6,b .sub (ln 1)<|i 1)]^bk 0 (lo<|k (b .geq 6<|i 0) e (xt 0)^bk 1 (hh [(9,ld<|ia 1 1 6),(7,lt 4 3)] 8
 (.callK 2) (c 3<|c (ia 1 1 6)<|c (fn 184)<|c3 (lt 4 3) 5 2)^h 10 .callC (c (fn 185)<|c3 7 8 9)^s [(5,10)])^s [(6,b .sub 6<|i 1)]))^s [(4,5)]^r
def NS:Stm:=
 (h 2 .box (c1 0)^s [(3,.cst u)])^s [(4,.cst u)]^(s [(5,i 1)]^bk 0 (lo<|k (b .lss 5<|ln 1) e (xt 0)^bk 1 (hh [(6,4)] 7 .callC (c (fn 184)<|c3 (lt 4 2) (b
 .rem 5<|lf 0 2)<|ld<|ia 1 1 5)^h 8 (.bSl [z] 1 [0]) (c1 7)^h 9 (.app 1 [z]) (c2 6 8)^s [(4,9)])^s [(5,ad 5<|i 1)]))^s [(3,4)]^r
def NT:Stm:=
 (h 3 .box (c1 0)^s [(4,i 0)])^kq (p (b .eql 1<|i 0) t<|b .eql 2<|i 0) (s [(4,i 0)]^r)^s [(4,ld<|ia 1 (lf 2 3)<|b .rem (ad (ld<|ia 1 (lf 3 3) 1)<|ld (ia 1
 (lf 3 3) 2))<|b .sub (lf 1 3)<|i 1)]^r
def NU:Stm:=
 (h 3 .box (c1 0)^s [(4,i 0)])^kq (b .eql (lf 0 3)<|i 2) (s [(4,b .xor 1 2)]^r)^s [(4,b .rem (ad 1 2)<|lf 1 3)]^r
def NV:Stm:=
 (h 3 .box (c1 0)^s [(4,i 0)])^kq (b .eql 1<|i 0) (s [(4,i 0)]^r)^s [(4,ld<|ia 1 (lf 2 3)<|b .rem (b .sub (ad (b .sub (ld<|ia 1 (lf 3 3) 1)<|ld<|ia 1 (lf 3
 3) 2)<|lf 1 3)<|i 1)<|b .sub (lf 1 3)<|i 1)]^r
def NW:Stm:=
 (h 2 .box (c1 0)^h 3 (.alloc [z,z]) .nil^s [(5,f),(4,i 0)])^(hh [(7,n2 (.build [z,z] [(0,1),(1,1)]) (lf 0 2)<|i 0)] 6 (.alloc [z,z]) .nil^w 2 6 7)^bk
 0 (k (b .eql (lf 1 2)<|i 1) (kq (b .geq 1<|i 29) ((w 2 3 (lt 2 2)^s [(5,f),(4,i<|-1)])^r)^(Stm.hv [(8,n1 (.cvt .i64)<|n2 .idxS (.cst<|.string ⟨ #[59,
 60,62,64,91,92,93,95,96,126,33,13,9,44,58,10,45,46,36,47,34,124,42,40,41,63,123,125,39] ⟩) 1)] [] [] none (.st 2) (c2 3 (lt 2
 6))^s [(5,t),(4,8)])^r)<|k (b .eql (lf 1 2)<|i 2) (kq (b .gtr 1<|i 26) ((w 2 3 (lt 2 2)^s [(5,f),(4,i<|-1)])^r)^(hh [(9,lt 2 6)] 10 (.callK 1) (c 6
 (c3 (fn 205) (i 65) 1))^w 2 3 9^s [(5,t),(4,10)])^r)<|k (p (b .eql (lf 0 2)<|i 0) (b .leq 1<|i 26) f) ((hh [(11,lt 2 6)] 12 (.callK 1) (c 6 (c3 (fn 205)
 (i 65) 1))^w 2 3 11^s [(5,t),(4,12)])^r)<|k (p (b .eql (lf 0 2)<|i 1) (b .leq 1<|i 26) f) ((hh [(13,lt 2 6)] 14 (.callK 1) (c 6 (c3 (fn 205) (i 97)
 1))^w 2 3 13^s [(5,t),(4,14)])^r)<|k (p (b .eql (lf 0 2)<|i 2) (b .lss 1<|i 25) f) ((Stm.hv [(15,n1 (.cvt .i64)<|n2 .idxS (.cst<|.string ⟨ #[48,49,50,
 51,52,53,54,55,56,57,38,13,9,44,58,35,45,46,36,47,43,37,42,61,94] ⟩) 1)] [] [] none (.st 2) (c2 3<|lt 2 6)^s [(5,t),(4,15)])^r) (k
 (p (b .eql (lf 0 2)<|i 2) (b .eql 1<|i 26) f) ((w 2 3 (lt 2 6)^s [(5,t),(4,i 32)])^r)<|kq (p (b .eql (lf 0 2)<|i 3) (b .lss 1<|i 29) f)<|(Stm.hv [(16,
 n1 (.cvt .i64)<|n2 .idxS (.cst<|.string ⟨ #[59,60,62,64,91,92,93,95,96,126,33,13,9,44,58,10,45,46,36,47,34,124,42,40,41,63,123,125,
 39] ⟩) 1)] [] [] none (.st 2) (c2 3<|lt 2 6)^s [(5,t),(4,16)])^r))^(cl 17 206 (c2 (lt 2 2) 1)^w 2 3 17^s [(5,t),(4,i<|-1)])^r
def GB:Stm:=
 bk 0 (lo<|k (b .gtr 2<|i 0) e (xt 0)^bk 1 (s [(3,i 0)]^(s [(9,i 0),(8,ln<|n2 (.sl 1 false true false) 1<|i 5),(7,n2 (.sl 1 false true false) 1 (i
 5))]^bk 2 (lo<|k (b .lss 9 8) e (xt 2)^bk 3 (s [(4,ld<|ia 1 7 9)]^s [(3,ad (b .mul 3<|i 900) 4)])^s [(9,ad 9<|i 1)]))^kq (b .geq 3<|i 281474976710656)
 (v .pan<|c1<|n1 (.mkI 169)<|n1 (.build [z] [(0,1)])<|i 22)^(s [(5,i 40)]^bk 4 (lo<|k (b .geq 5<|i 0) e (xt 4)^bk 5 (hh [(11,lf 4<|nk 0),(10,0)] 12
 (.bSl [.int .u8 0] 1 [0]) (c1<|n1 (.cvt .u8)<|b .shr 3 5)^h 13 (.app 1 [.int .u8 0]) (c2 11 12)^w 1 (fa 4<|nk 10) 13)^s [(5,b .sub 5<|i 8)]))^s [(1,n2
 (.sl 1 true false false) 1<|i 5)])^s [(2,b .sub 2<|i 1)])^s [(16,i 0),(15,ln 1),(14,1)]^bk 6 (lo<|k (b .lss 16 15) e (xt 6)^bk 7 (s [(6,ld (ia 1 14
 16))]^kq (b .gtr 6<|i 255) (v .pan<|c1<|n1 (.mkI 169)<|n1 (.build [z] [(0,1)])<|i 22)^hh [(18,lf 4<|nk 0),(17,0)] 19 (.bSl [.int .u8 0] 1 [0]) (c1
 (n1 (.cvt .u8) 6))^h 20 (.app 1 [.int .u8 0]) (c2 18 19)^w 1 (fa 4<|nk 17) 20)^s [(16,ad 16<|i 1)])
def CP:CF:=⟨3,21,[],GB,.plain⟩
def Tu:XN:=[0,1,2,6,8,9,11,17,18,19,36,40,45,46,51,52,53,61,65,68,69]
def NX:Stm:=
 s [(2,f),(1,.cst<|.string ⟨ #[] ⟩)]^s [(3,.cst u)]^(s [(4,i 0)]^bk 0 (lo<|k (b .lss 4<|ln 0) e (xt 0)^bk 1 (s [(5,n2 (.minmax false) (ad 4<|i 15) (ln
 0))]^kq (b .eql (ld<|ia 1 0 4)<|i 0) (s [(2,f),(1,.cst<|.string ⟨ #[] ⟩)]^r)^(cl 8 207 (c2 (.node (.sl 1 true true false)<|c3 0 4 5)<|i 900)^hh [(10,
 ix 1 8),(9,ix 0 8)] 6 (.alloc [.bool false,u]) .nil^w 2 6 9^Stm.sets [] [10])^(cl 11 208 (c1<|lt 2 6)^s [(7,11)])^kq (p (p (b .lss (n1 .lenS 7)<|i 2) t
 (b .gtr (n1 .lenS 7)<|i 45)) t<|b .neq (n2 .idxS 7<|i 0)<|.cst<|.int .u8 49) (s [(2,f),(1,.cst<|.string ⟨ #[] ⟩)]^r)^kq (p (b .lss 5<|ln 0) (b .neq
 (n1 .lenS 7)<|i 45) f) (s [(2,f),(1,.cst<|.string ⟨ #[] ⟩)]^r)^h 12 (.appS [.int .u8 0]) (c2 3<|n2 (.slS true false) 7<|i 1)^s [(3,12)])^s [(4,ad 4
 (i 15))]))^s [(2,t),(1,n1 .b2s 3)]^r
def SG:CF:=⟨1,13,[(.var 1),(.var 2)],NX,.plain⟩
def NY:Stm:=
 (h 3 .box (c1 0)^s [(4,i 0)])^s [(5,i 0)]^(s [(6,i 0)]^bk 0 (lo<|k (b .lss 6<|ln 1) e (xt 0)^bk 1 (hh [(9,ld<|ia 1 1 6),(7,lt 3 3)] 8 (.callK 2) (c 3 (c
 (ia 1 1 6)<|c (fn 84)<|c3 (lt 3 3) 5 2))^h 10 .callC (c (fn 82)<|c3 7 8 9)^s [(5,10)])^s [(6,ad 6<|i 1)]))^s [(4,5)]^r
def NZ:Stm:=
 s [(2,i 0)]^kq (b .lss 1<|ln 0) (s [(2,ld<|ia 1 0 1)]^r)^s [(2,i 0)]^r
def N0:Stm:=
 (h 5 .box (c1 0)^s [(6,.cst u)])^(h 10 (.mkSl [z]) (c2 (n2 (.minmax true) (ln 1)<|ad (ln 2) 4)<|n2 (.minmax true) (ln 1)<|ad (ln 2) 4)^s [(7,10)])^(s [(8,
 i 0)]^bk 0 (lo<|k (b .lss 8<|ln 7) e (xt 0)^bk 1 (s [(9,i 0)]^kq (b .geq 8 4) (hh [(12,3),(11,lt 3 5)] 13 (.callK 1) (c 5<|c3 (fn 191) 2<|b .sub 8 4)^h
 14 .callC (c (fn 84)<|c3 11 12 13)^s [(9,14)])^hh [(19,9),(17,lt 3 5),(16,8),(15,7)] 18 (.callK 1) (c 5<|c3 (fn 191) 1 8)^h 20 .callC (c (fn 83) (c3
 17 18 19))^w 1 (ia 1 15 16) 20)^s [(8,ad 8<|i 1)]))^s [(6,7)]^r
def N1:Stm:=
 s [(1,.cst<|.string ⟨ #[] ⟩)]^(h 9 (.bSl [z] 1 [0]) (c1<|i 0)^s [(2,9)])^(s [(3,i 0)]^bk 0 (lo<|k (b .lss 3<|ln 0) e (xt 0)^bk 1 (s [(4,ld (ia 1 0
 3))]^(s [(5,b .sub (ln 2)<|i 1)]^bk 2 (lo<|k (b .geq 5<|i 0) e (xt 2)^bk 3 (s [(4,ad 4<|b .mul (i 900)<|ld<|ia 1 2 5)]^w 1 (ia 1 2 5) (b .rem 4 (i
 10))^s [(4,b .quo 4<|i 10)])^s [(5,b .sub 5<|i 1)]))^bk 4 (lo<|k (b .gtr 4<|i 0) e (xt 4)^bk 5 (s [(6,.cst u)]^(hh [(10,6)] 11 (.bSl [z] 1 [0]) (c1 (b
 .rem 4<|i 10))^h 12 (.app 1 [z]) (c2 10 11)^s [(6,12)])^(h 13 (.app 1 [z]) (c2 6 2)^s [(6,13)])^s [(2,6)]^s [(4,b .quo 4<|i 10)])))^s [(3,ad 3 (i
 1))]))^s [(7,.cst<|.string ⟨ #[] ⟩)]^(s [(8,i 0)]^bk 6 (lo<|k (b .lss 8<|ln 2) e (xt 6)^bk 7 (hh [(14,7)] 15 (.bSl [.int .u8 0] 1 [0]) (c1<|n1 (.cvt
 .u8)<|ad (i 48)<|ld<|ia 1 2 8)^s [(7,ad 14<|n1 .b2s 15)])^s [(8,ad 8<|i 1)]))^s [(1,7)]^r
def N5:Stm:=
 s [(2,f)]^kq (b .neq (ln 0)<|ln 1) (s [(2,f)]^r)^(s [(3,i 0)]^bk 0 (lo<|k (b .lss 3<|ln 0) e (xt 0)^bk 1 (kq (b .neq (ld<|ia 1 0 3)<|ld<|ia 1 1 3) (s
 [(2,f)]^r))^s [(3,ad 3<|i 1)]))^s [(2,t)]^r
def Tv:XN:=[0,1,2,3,5,8,9,10,11,12,13,17,18,19,20]
def Tw:XN:=[0,2]
def Tz:XN:=[0,1,2]
def UA:XN:=[0,1,2,6,7,8,9,12,34]
def UB:XN:=[0,1,2,6]
def N6:Stm:=
 (s [(1,i 0)]^kq f ((cl 2 210 (c1<|n1 (.cvt .u32) 0)^s [(1,2)])^r))^(cl 3 211 (c1 0)^s [(1,3)])^r
def N7:Stm:=
 s [(2,i 0)]^bk 0 (lo<|(cl 3 159 (c1 0)^cl 4 159 (c1 1)^k (b .geq 3 4) e (xt 0))^bk 1 (hh [(6,1),(5,0)] 7 (.call false) (c2 (fn 159) 0)^cl 8 159 (c1 1)^s
 [(0,b .xor 5<|b .shl 6<|b .sub 7 8)]))^s [(2,0)]^r
def N8:Stm:=
 (h 2 .box (c1 0)^s [(3,i 0)])^s [(5,1),(4,i 1)]^bk 0 (lo<|k (p (b .neq 5<|i 1) (b .lss 4<|lf 1 2) f) e (xt 0)^bk 1 ((cl 6 84 (c3 (lt 3 2) 5 1)^s [(5,
 6)])^s [(4,ad 4<|i 1)]))^s [(3,4)]^r
def N9:Stm:=
 (h 2 .box (c1 0)^s [(3,i 0)])^s [(4,i 1)]^(s [(5,1)]^bk 0 (lo<|k (b .neq 5<|i 1) e (xt 0)^bk 1 (s [(4,ad 4<|i 1)])^cl 6 176 (c3 (lt 3 2) 5 1)^s [(5,
 6)]))^s [(3,4)]^r
def Na:Stm:=
 (h 3 .box (c1 0)^s [(4,i 0)])^kq (b .eql (lf 0 3)<|i 2) (s [(4,b .xor 1 2)]^r)^s [(4,b .rem (ad (b .sub 1 2)<|lf 1 3)<|lf 1 3)]^r
def Nb:Stm:=
 s [(2,i 0)]^kq (b .eql 1<|i 26) (s [(2,i 32)]^r)^s [(2,ad 0 1)]^r
def Nc:Stm:=
 (h 2 .box (c1 0)^h 3 (.alloc [z,z]) .nil)^(s [(4,lf 0 2)]^bk 0 (k (b .eql 4<|i 0) (s [(5,1)]^bk 1 (k (b .eql 5<|i 27) (w 2 3 (n2 (.build [z,z] [(0,1),
 (1,1)]) (i 1)<|i 0)^r)<|kq (b .eql 5<|i 28)<|w 2 3 (n2 (.build [z,z] [(0,1),(1,1)]) (i 2)<|i 0)^r))<|k (b .eql 4<|i 1) (s [(6,1)]^bk 2 (k (b .eql
 6<|i 27) (w 2 3 (n2 (.build [z,z] [(0,1),(1,1)]) (i 1)<|i 2)^r)<|kq (b .eql 6<|i 28)<|w 2 3 (n2 (.build [z,z] [(0,1),(1,1)]) (i 2)<|i 0)^r)) (k
 (b .eql 4<|i 2) (s [(7,1)]^bk 3 (k (b .eql 7<|i 25) (w 2 3 (n2 (.build [z,z] [(0,1),(1,1)]) (i 3)<|i 0)^r)<|k (b .eql 7<|i 27) (w 2 3 (n2 (.build [z,
 z] [(0,1),(1,1)]) (i 1)<|i 0)^r)<|kq (b .eql 7<|i 28)<|w 2 3 (n2 (.build [z,z] [(0,1),(1,1)]) (i 0)<|i 0)^r))<|w 2 3 (n2 (.build [z,z] [(0,1),
 (1,1)]) (i 0)<|i 0)^r)))^w 2 3 (n2 (.build [z,z] [(0,1),(1,1)]) (lf 0 2)<|i 1)^r
def Nf:Stm:=
 (h 2 (.alloc [.bool false,u]) .nil^s [(3,i 0)])^kq (p (b .lss 1<|i 2) t<|b .gtr 1<|i 65536) ((w 2 2 (.node (.build [.bool false,u] []) .nil)^s [(3,i
 1)])^r)^kq (b .gtr (ln 0)<|i 4096) ((w 2 2 (.node (.build [.bool false,u] []) .nil)^s [(3,i 4)])^r)^(s [(9,i 0),(8,ln 0),(7,0)]^bk 0 (lo<|k (b .lss 9
 8) e (xt 0)^bk 1 (s [(4,ld<|ia 1 7 9)]^kq (p (b .lss 4<|i 0) t<|b .geq 4 1) ((w 2 2 (.node (.build [.bool false,u] []) .nil)^s [(3,i 3)])^r))^s [(9,ad
 9<|i 1)]))^s [(5,.cst u)]^(s [(12,i 0),(11,ln 0),(10,0)]^bk 2 (lo<|k (b .lss 12 11) e (xt 2)^bk 3 (s [(6,ld<|ia 1 10 12)]^(cl 13 212 (c3 5 (n1 (.cvt
 .u32) 1)<|n1 (.cvt .u32) 6)^s [(5,13)])^kq (b .gtr (ln 5)<|i 512) ((w 2 2 (.node (.build [.bool false,u] []) .nil)^s [(3,i 4)])^r))^s [(12,ad 12 (i
 1))]))^(cl 14 213 (c2 f 5)^w 2 2 14^s [(3,i 0)])^r
def vP:Stm:=
 (h 1 .box (c1 0)^s [(2,.cst<|.string ⟨ #[] ⟩)])^(cl 9 214 (c1<|lt 2 1)^kq (n1 (.un .not) 9) (s [(2,.cst<|.string ⟨ #[] ⟩)]^r))^kq (b .eql (ln<|lf 1 1) (i
 0)) (s [(2,.cst<|.string ⟨ #[48] ⟩)]^r)^s [(3,.cst u)]^(s [(4,lf 1 1)]^bk 0 (lo<|k (b .gtr (ln 4)<|i 0) e (xt 0)^bk 1 (s [(5,.cst<|.int .u32 0)]^(cl 10
 215 (c2 4<|.cst<|.int .u32 1000000000)^s [(5,ix 1 10),(4,ix 0 10)])^hh [(11,3)] 12 (.bSl [.int .u32 0] 1 [0]) (c1 5)^h 13 (.app 1 [.int .u32 0]) (c2 11
 12)^s [(3,13)])))^h 6 (.alloc [.pointer none,u]) .nil^kq (lf 0 1) (v (.call false)<|c3 (fn 216) 6<|.cst<|.int .u8 45)^(s [(7,b .sub (ln 3)<|i 1)]^bk 2
 (lo<|k (b .geq 7<|i 0) e (xt 2)^bk 3 ((cl 14 217 (c1<|n1 (.cvt .i64)<|ld<|ia 1 3 7)^s [(8,14)])^kq (b .lss 7<|b .sub (ln 3)<|i 1) (cl 15 219 (c2 (.cst
 (.string ⟨ #[48] ⟩))<|b .sub (i 9)<|n1 .lenS 8)^v (.call false) (c3 (fn 218) 6 15))^v (.call false) (c3 (fn 218) 6 8))^s [(7,b .sub 7<|i 1)]))^(cl 16 220
 (c1 6)^s [(2,16)])^r
def CQ:CF:=⟨1,17,[(.var 2)],vP,.plain⟩
def OQ:XN:=[0,1,2,3,4,5,6,7,8,10,23,26,28,29,45,54,58]
def UC:XN:=[0,2,3,5,10,11,12,15]
def UD:XN:=[0,2]
def Ng:Stm:=
 s [(1,i 0)]^kq (b .geq 0<|.cst<|.int .u64 4294967296) (s [(0,b .shr 0<|.cst<|.int .u64 32)]^s [(1,i 32)])^kq (b .geq 0<|.cst<|.int .u64 65536) (s [(0,
 b .shr 0<|.cst<|.int .u64 16)]^s [(1,ad 1<|i 16)])^kq (b .geq 0<|.cst<|.int .u64 256) (s [(0,b .shr 0<|.cst<|.int .u64 8)]^s [(1,ad 1<|i 8)])^s
 [(1,ad 1<|n1 (.cvt .i64)<|n2 .idxS (.cst<|.string Ky)<|n1 (.cvt .u8) 0)]^r
def Nh:Stm:=
 s [(3,.cst u)]^(h 9 (.mkSl [.int .u32 0]) (c2 (ad (ln 0)<|i 1)<|ad (ln 0)<|i 1)^s [(4,9)])^s [(5,2)]^(s [(12,i 0),(11,ln 0),(10,0)]^bk 0 (lo<|k (b
 .lss 12 11) e (xt 0)^bk 1 (s [(7,ld<|ia 1 10 12),(6,12)]^(cl 13 223 (c1<|ad (b .mul (n1 (.cvt .u64) 7)<|n1 (.cvt .u64) 1)<|n1 (.cvt .u64) 5)^h 8
 (.alloc [.int .u32 0,.int .u32 0]) .nil^w 2 8 13)^Stm.hv [(16,ia 1 4 6),(15,ld<|n2 (.iAddrA 2 1) 8<|i 1),(14,n2 (.iAddrA 2 1) 8<|i 1)] [] [] none
 (.st 1) (c2 (ia 1 4 6)<|ld<|n2 (.iAddrA 2 1) 8<|i 0)^s [(5,15)]^Stm.dist 16 14)^s [(12,ad 12<|i 1)]))^w 1 (ia 1 4<|ln 0) 5^(cl 17 224 (c1 4)^s [(3,
 17)])^r
def Ni:Stm:=
 h 2 (.alloc [.bool false,u]) .nil^kq (b .eql (ln 1)<|i 0) (w 2 2 (.node (.build [.bool false,u] []) .nil)^r)^w 2 2 (n2 (.build [.bool false,u] [(0,1),(1,
 1)]) 0 1)^r
def Nj:Stm:=
 (h 1 .box (c1 0)^s [(2,f)])^s [(3,ln<|lf 1 1)]^kq (b .eql 3<|i 0) (s [(2,n1 (.un .not)<|lf 0 1)]^r)^s [(2,p (b .leq 3<|i 512) (b .neq (ld (ia 1 (lf 1 1)
 (b .sub 3<|i 1)))<|.cst<|.int .u32 0) f)]^r
def Nk:Stm:=
 s [(3,.cst<|.int .u32 0),(2,.cst u)]^(h 6 (.mkSl [.int .u32 0]) (c2 (ln 0)<|ln 0)^s [(2,6)])^(s [(4,b .sub (ln 0)<|i 1)]^bk 0 (lo (k (b .geq 4<|i 0) e
 (xt 0)^bk 1 (s [(5,b .or (b .shl (n1 (.cvt .u64) 3)<|.cst<|.int .u64 32)<|n1 (.cvt .u64)<|ld<|ia 1 0 4)]^Stm.hv [(7,n1 (.cvt .u32)<|b .rem 5<|n1 (.cvt
 .u64) 1)] [] [] none (.st 1) (c2 (ia 1 2 4)<|n1 (.cvt .u32)<|b .quo 5<|n1 (.cvt .u64) 1)^s [(3,7)])^s [(4,b .sub 4<|i 1)])))^(cl 8 224 (c1 2)^s [(3,
 3),(2,8)])^r
def UE:XN:=[0,1,4,7,11,13,14]
def UF:XN:=[0,2,4]
def UG:XN:=[0,1,4,5,8,14]
def UH:XN:=[0,1,4,5,6,7,8,9,10,11,26,42,43,52,54,61,63,70,72,79,81,88,90,111,114,115,116,117,120,124]
def UI:XN:=[0,2,3,4,5,6,8,11,35,36,50,53]
def UJ:XN:=[0,1,2,4,5,6,7,8,10,28,41,44,47,48]
def Nl:Stm:=
 h 1 (.alloc [.int .u32 0,.int .u32 0]) .nil^w 2 1 (n2 (.build [.int .u32 0,.int .u32 0] [(0,1),(1,1)]) (n1 (.cvt .u32) 0)<|n1 (.cvt .u32)<|b .shr 0 (.cst
 (.int .u64 32)))^r
def GC:Stm:=
 s [(1,.cst u)]^s [(2,ln 0)]^bk 0 (lo<|k (p (b .gtr 2<|i 0) (b .eql (ld<|ia 1 0<|b .sub 2<|i 1)<|.cst<|.int .u32 0) f) e (xt 0)^bk 1 (s [(2,b .sub 2 (i
 1))]))^s [(1,n2 (.sl 1 false true false) 0 2)]^r
def UK:XN:=[0,2,4]
def UL:XN:=[0,1,4,7]
def UM:XN:=[0,2]
def UN:XN:=[0,1,4,5,8]
def UO:XN:=[0,2,3,16,17,25]
def UP:XN:=[0,1,4,5,6,7,9,19,27,50]
def UQ:XN:=[0,1,4]
def UR:XN:=[0,1,4,5,8]
def US:XN:=[0,2]
def UT:XN:=[0,2,3,5,6,7,13]
def UU:XN:=[0,1,4,5,6,7,8,9,10,11,12,13,14,15,16,45,47,52,58,60,65,71,73,78,84,86,91,113,115,120,126,128,133,148,150,155]
def UW:XN:=[0,1,2,3,4,10,11,12,13,14,15,16,17,18,34,37,98]
def UX:XN:=[0,2]
def UY:XN:=[0,2]
def UZ:XN:=[0,2]
def U0:XN:=[0,2,5,7]
def U1:XN:=[0,2]
def U2:XN:=[0,2]
end
def kR{P:Prop}(h:P:=by kernel_rfl):P:=h
noncomputable def Oq:Wl
 | 6=>some cf6
 | 9=>aD Tryz.prog tr9 9
 | 10=>some ⟨2,6,[(.var 2),(.var 3)],Uj,.plain⟩
 | 12=>some ⟨1,6,[(.var 1),(.var 2),(.var 3)],Uk,.plain⟩
 | 14=>some ⟨2,4,[(.var 2)],Ul,.plain⟩
 | 15=>some ⟨4,12,[(.var 4),(.var 5),(.var 6)],Um,.plain⟩
 | _=>none
def sn(f:FuncId)(cf:CF)(h:Oq f=some cf):∃t,aD Tryz.prog t f=some cf:=by
 unfold Oq at h;split at h
 .cases h;exact⟨[0,1,2,3,4,5,6,7,8,13,16,22,41,42],kR⟩
 .exact⟨_,h⟩
 .cases h;exact⟨[0,1,4,5,24,27],kR⟩
 .cases h;exact⟨[0,2,3,4,5,7],kR⟩
 .cases h;exact⟨[0,1,4,5],kR⟩
 .cases h;exact⟨[0,1,2,3,8,9,10,11,12,13,14,65],kR⟩
 .grind
noncomputable def Ot:Wl
 | 17=>aD Tryz.prog Vh 17
 | 20=>some ⟨1,50,[(.var 2),(.var 3),(.var 4)],R5,.plain⟩
 | 21=>some ⟨1,45,[(.var 2),(.var 3),(.var 4)],R6,.plain⟩
 | 23=>some GV
 | 24=>aD Tryz.prog Vj 24
 | 26=>some ⟨0,13,[(.node (.ld 1458 true)<|.cons (.var 0) .nil)],R7,.plain⟩
 | 27=>some ⟨2,20,[(.var 2),(.var 3),(.var 4)],R8,.plain⟩
 | 28=>some ⟨2,20,[(.var 3),(.var 4)],O3,.plain⟩
 | 29=>some ⟨2,3,[(.var 2)],R9,.plain⟩
 | 31=>aD Tryz.prog Vk 31
 | _=>none
def so(f:FuncId)(cf:CF)(h:Ot f=some cf):∃t,aD Tryz.prog t f=some cf:=by
 unfold Ot at h;split at h
 .exact⟨_,h⟩
 .cases h;exact⟨[0,1,2,3,4,5,6,7,8,9,10,11,12,13,14,15,16,17,18,19,20,22,24,26,46,47,48,51,53,54,57,58,74,80,92,97,98,99,107,108,109,119,120,123,125,134,143,144,145,152],kR⟩
 .cases h;exact⟨[0,1,2,3,4,5,6,7,8,9,10,11,12,13,14,15,16,17,18,19,20,21,23,42,46,47,48,51,53,54,81,84,86,96,101,104,105,106,128,131,142,143,146,148,158],kR⟩
 .cases h;exact⟨Vi,kR⟩
 .exact⟨_,h⟩
 .cases h;exact⟨[0,1,2,3,4,5,6,31,39,46,49,54,60],kR⟩
 .cases h;exact⟨[0,1,4,5,6,7,9,10,11,12,13,17,18,19,58,59,60,70,76,84],kR⟩
 .cases h;exact⟨[0,1,2,4,5,6,7,8,9,10,11,12,37,43,66,73,76,81,86,92],kR⟩
 .cases h;exact⟨[0,1,4],kR⟩
 .exact⟨_,h⟩
 .grind
noncomputable def Ou:Wl
 | 32=>some ⟨1,2,[(.var 1)],Ra,.plain⟩
 | 33=>aD Tryz.prog Vl 33
 | 34=>aD Tryz.prog Vm 34
 | 35=>aD Tryz.prog Vn 35
 | 37=>aD Tryz.prog Vo 37
 | 39=>aD Tryz.prog Vp 39
 | 40=>aD Tryz.prog Vq 40
 | 41=>aD Tryz.prog Vr 41
 | 42=>some ⟨2,4,[(.var 2)],Rb,.plain⟩
 | 43=>some ⟨1,3,[(.var 2)],Rc,.plain⟩
 | 44=>aD Tryz.prog Vs 44
 | 45=>aD Tryz.prog Vt 45
 | 46=>some ⟨4,22,[(.var 4)],Rd,.plain⟩
 | 47=>some ⟨2,28,[(.var 2),(.var 3),(.var 4)],Re,.plain⟩
 | _=>none
def sq(f:FuncId)(cf:CF)(h:Ou f=some cf):∃t,aD Tryz.prog t f=some cf:=by
 unfold Ou at h;split at h
 .cases h;exact⟨[0,2],kR⟩
 .exact⟨_,h⟩
 .exact⟨_,h⟩
 .exact⟨_,h⟩
 .exact⟨_,h⟩
 .exact⟨_,h⟩
 .exact⟨_,h⟩
 .exact⟨_,h⟩
 .cases h;exact⟨[0,1,4,5],kR⟩
 .cases h;exact⟨[0,1,2],kR⟩
 .exact⟨_,h⟩
 .exact⟨_,h⟩
 .cases h;exact⟨[0,1,2,3,8,9,10,11,12,13,14,15,16,17,28,30,35,44,55,63,72,93],kR⟩
 .cases h;exact⟨[0,1,4,5,6,7,8,10,11,12,13,14,15,16,17,18,19,20,24,26,27,30,50,51,54,58,86,88],kR⟩
 .grind
noncomputable def Ov:Wl
 | 48=>some ⟨4,27,[(.var 4),(.var 5)],Rf,.plain⟩
 | 49=>some ⟨3,32,[(.node (.ld 2 true)<|.cons (.var 4) .nil),(.var 5)],O4,.plain⟩
 | 50=>some cf50
 | 52=>some ⟨1,3,[(.var 2)],Rg,.plain⟩
 | 53=>some ⟨2,31,[(.var 4),(.node (.ld 60 true)<|.cons (.var 5) .nil)],Rh,.plain⟩
 | 54=>some ⟨1,5,[(.var 2)],Ri,.plain⟩
 | 55=>some ⟨4,24,[(.var 5),(.var 6)],Rj,.plain⟩
 | 56=>some ⟨3,15,[(.node (.ld 2 true)<|.cons (.var 4) .nil),(.var 5)],O6,.plain⟩
 | 57=>some ⟨2,4,[(.var 2)],Rk,.plain⟩
 | 58=>some ⟨1,24,[(.var 1),(.var 2)],Rl,.plain⟩
 | 59=>some GW
 | 60=>some GX
 | 61=>some GY
 | 62=>aD Tryz.prog Vy 62
 | 63=>aD Tryz.prog Vz 63
 | _=>none
def sr(f:FuncId)(cf:CF)(h:Ov f=some cf):∃t,aD Tryz.prog t f=some cf:=by
 unfold Ov at h;split at h
 .cases h;exact⟨[0,1,2,3,8,9,10,11,12,13,14,15,16,17,21,22,23,25,28,29,30,46,47,53,61,63,64],kR⟩
 .cases h;exact⟨[0,1,2,3,6,7,9,10,12,13,14,17,20,21,22,39,44,45,46,47,49,50,52,53,54,55,82,86,87,102,104,105],kR⟩
 .cases h;exact⟨Vu,kR⟩
 .cases h;exact⟨[0,1,2],kR⟩
 .cases h;exact⟨[0,1,2,3,4,5,6,7,8,9,10,11,12,13,14,15,16,38,39,40,42,47,48,49,56,69,109,112,113,117,118],kR⟩
 .cases h;exact⟨[0,1,2,3,4],kR⟩
 .cases h;exact⟨[0,1,2,3,4,8,9,10,11,12,13,14,15,16,17,18,19,23,27,29,72,106,108,109],kR⟩
 .cases h;exact⟨[0,1,2,3,6,7,8,9,10,12,14,18,62,74,76],kR⟩
 .cases h;exact⟨[0,1,4,5],kR⟩
 .cases h;exact⟨[0,2,3,4,5,6,7,8,9,10,11,12,13,14,15,16,54,63,79,85,86,102,111,119],kR⟩
 .cases h;exact⟨Vv,kR⟩
 .cases h;exact⟨Vw,kR⟩
 .cases h;exact⟨Vx,kR⟩
 .exact⟨_,h⟩
 .exact⟨_,h⟩
 .grind
noncomputable def Ow:Wl
 | 64=>aD Tryz.prog WA 64
 | 65=>aD Tryz.prog WB 65
 | 66=>aD Tryz.prog WC 66
 | 67=>some ⟨2,9,[(.var 3)],Rm,.plain⟩
 | 68=>some ⟨2,4,[(.var 3)],Rn,.plain⟩
 | 69=>aD Tryz.prog WD 69
 | 70=>aD Tryz.prog WE 70
 | 71=>aD Tryz.prog WG 71
 | 72=>aD Tryz.prog WH 72
 | 73=>aD Tryz.prog WI 73
 | 79=>some ⟨1,5,[(.var 2)],Ro,.plain⟩
 | _=>none
def ss(f:FuncId)(cf:CF)(h:Ow f=some cf):∃t,aD Tryz.prog t f=some cf:=by
 unfold Ow at h;split at h
 .exact⟨_,h⟩
 .exact⟨_,h⟩
 .exact⟨_,h⟩
 .cases h;exact⟨[0,1,2,4,7,8,15,17,21],kR⟩
 .cases h;exact⟨[0,1,2,4],kR⟩
 .exact⟨_,h⟩
 .exact⟨_,h⟩
 .exact⟨_,h⟩
 .exact⟨_,h⟩
 .exact⟨_,h⟩
 .cases h;exact⟨[0,1,2,3,9],kR⟩
 .grind
noncomputable def Ox:Wl
 | 80=>some ⟨2,6,[(.var 3)],Rp,.plain⟩
 | 82=>some ⟨3,5,[(.var 4)],Rq,.plain⟩
 | 83=>some ⟨3,5,[(.var 4)],Rr,.plain⟩
 | 84=>some ⟨3,8,[(.var 4)],Rs,.plain⟩
 | 85=>aD Tryz.prog WJ 85
 | 86=>some ⟨2,6,[(.var 2)],Rt,.plain⟩
 | 87=>some ⟨2,16,[(.var 2),(.var 3),(.var 4)],Ru,.plain⟩
 | 88=>some ⟨2,2,[],Oa,.plain⟩
 | 89=>some ⟨1,8,[(.var 1),(.var 2)],Rv,.plain⟩
 | 90=>some ⟨2,7,[(.var 2)],Rw,.plain⟩
 | 92=>some ⟨3,10,[(.var 4),(.var 5)],Rx,.plain⟩
 | 93=>some ⟨1,22,[(.node (.ld 4 true)<|.cons (.var 2) .nil)],Ry,.plain⟩
 | 94=>some ⟨1,9,[(.var 1)],Rz,.plain⟩
 | 95=>some ⟨2,9,[],Ob,.rcv 4⟩
 | _=>none
def su(f:FuncId)(cf:CF)(h:Ox f=some cf):∃t,aD Tryz.prog t f=some cf:=by
 unfold Ox at h;split at h
 .cases h;exact⟨[0,1,2,4,5,17],kR⟩
 .cases h;exact⟨[0,1,2,3,6],kR⟩
 .cases h;exact⟨[0,1,2,3,6],kR⟩
 .cases h;exact⟨[0,1,2,3,6,7,8,40],kR⟩
 .exact⟨_,h⟩
 .cases h;exact⟨[0,1,4,5,12,13],kR⟩
 .cases h;exact⟨[0,1,4,5,6,7,8,9,10,15,16,17,33,34,35,48],kR⟩
 .cases h;exact⟨[0,1],kR⟩
 .cases h;exact⟨[0,2,3,4,5,6,7,8],kR⟩
 .cases h;exact⟨[0,1,4,5,7,8,16],kR⟩
 .cases h;exact⟨[0,1,2,3,6,7,8,9,10,21],kR⟩
 .cases h;exact⟨[0,1,2,3,5,6,7,10,14,16,20,22,23,24,27,28,34,35,36,38,39,45],kR⟩
 .cases h;exact⟨[0,2,3,5,18,19,20,21,26],kR⟩
 .cases h;exact⟨[0,1,2,3,5,7,8,10,11],kR⟩
 .grind
noncomputable def Oy:Wl
 | 96=>some Ap
 | 97=>aD Tryz.prog WM 97
 | 98=>aD Tryz.prog WN 98
 | 99=>some ⟨2,11,[(.var 3),(.var 4)],SA,.plain⟩
 | 100=>some ⟨4,7,[(.node (.ld 60 true)<|.cons (.var 5) .nil)],Fu,.plain⟩
 | 101=>some ⟨2,8,[(.var 2),(.var 3)],M5,.plain⟩
 | 102=>some ⟨4,59,[(.node (.ld 2 true)<|.cons (.var 5) .nil),(.var 6)],qk,.plain⟩
 | 103=>some ⟨3,18,[(.var 3),(.var 4),(.var 5),(.var 6)],M6,.plain⟩
 | 104=>some ⟨1,3,[(.var 1)],M7,.plain⟩
 | 105=>some SF
 | 106=>aD Tryz.prog TW 106
 | 107=>aD Tryz.prog TX 107
 | 108=>aD Tryz.prog TY 108
 | 109=>some GS
 | 110=>aD Tryz.prog T4 110
 | 111=>some ⟨1,12,[(.var 2)],M9,.plain⟩
 | _=>none
def sw(f:FuncId)(cf:CF)(h:Oy f=some cf):∃t,aD Tryz.prog t f=some cf:=by
 unfold Oy at h;split at h
 .cases h;exact⟨WK,kR⟩
 .exact⟨_,h⟩
 .exact⟨_,h⟩
 .cases h;exact⟨[0,1,2,4,5,6,7,9,11,12,17],kR⟩
 .cases h;exact⟨[0,1,2,3,4,8,9],kR⟩
 .cases h;exact⟨[0,1,4,5,6,7,8,10],kR⟩
 .cases h;exact⟨[0,1,2,3,4,8,9,10,11,12,13,14,15,16,17,18,19,20,21,22,23,24,25,26,28,31,35,36,47,48,54,55,58,59,61,67,68,70,84,85,86,92,93,106,111,112,113,115,116,137,141,148,161,165,178,181,186,187,192],kR⟩
 .cases h;exact⟨[0,1,2,6,7,8,9,10,11,12,13,14,15,16,31,40,43,44],kR⟩
 .cases h;exact⟨[0,2,3],kR⟩
 .cases h;exact⟨TV,kR⟩
 .exact⟨_,h⟩
 .exact⟨_,h⟩
 .exact⟨_,h⟩
 .cases h;exact⟨TZ,kR⟩
 .exact⟨_,h⟩
 .cases h;exact⟨[0,1,2,23,26,31,34,37,40,43,46,49],kR⟩
 .grind
noncomputable def Oz:Wl
 | 112=>some ⟨3,5,[(.var 4)],Ma,.plain⟩
 | 113=>some ⟨2,8,[(.var 3)],Mb,.plain⟩
 | 114=>some ⟨2,4,[(.var 3)],Mc,.plain⟩
 | 115=>aD Tryz.prog T5 115
 | 116=>aD Tryz.prog T6 116
 | 117=>aD Tryz.prog T7 117
 | 118=>aD Tryz.prog T8 118
 | 119=>some ⟨2,9,[(.var 3)],Md,.plain⟩
 | 120=>aD Tryz.prog T9 120
 | 125=>some ⟨1,9,[(.var 2)],Me,.plain⟩
 | 126=>some ⟨2,4,[(.var 3)],Mf,.plain⟩
 | 127=>some ⟨1,13,[(.var 2)],Mg,.plain⟩
 | _=>none
def tB(f:FuncId)(cf:CF)(h:Oz f=some cf):∃t,aD Tryz.prog t f=some cf:=by
 unfold Oz at h;split at h
 .cases h;exact⟨[0,1,2,3,6],kR⟩
 .cases h;exact⟨[0,1,2,4,6,7,8,9],kR⟩
 .cases h;exact⟨[0,1,2,4],kR⟩
 .exact⟨_,h⟩
 .exact⟨_,h⟩
 .exact⟨_,h⟩
 .exact⟨_,h⟩
 .cases h;exact⟨[0,1,2,4,6,8,10,11,12],kR⟩
 .exact⟨_,h⟩
 .cases h;exact⟨[0,1,2,3,9,33,37,59,62],kR⟩
 .cases h;exact⟨[0,1,2,4],kR⟩
 .cases h;exact⟨[0,1,2,3,4,5,6,9,15,22,24,25,30],kR⟩
 .grind
noncomputable def PA:Wl
 | 128=>some ⟨4,16,[(.var 5)],Mh,.plain⟩
 | 129=>some ⟨2,7,[(.var 2)],Mi,.plain⟩
 | 130=>aD Tryz.prog Ta 130
 | 131=>some ⟨1,6,[(.var 2),(.var 3)],Mj,.plain⟩
 | 132=>some ⟨3,10,[(.var 4),(.var 5)],Mk,.plain⟩
 | 133=>some ⟨1,4,[(.var 1)],Ml,.plain⟩
 | 134=>some ⟨1,20,[(.var 1)],Mm,.plain⟩
 | 135=>some ⟨1,6,[(.var 1)],Mn,.plain⟩
 | 136=>some ⟨1,23,[(.var 1)],Mo,.plain⟩
 | 137=>some ⟨1,40,[(.var 1)],Mp,.plain⟩
 | 138=>some ⟨1,6,[(.var 1)],Mq,.plain⟩
 | 139=>some yq
 | 140=>some CO
 | 141=>some vV
 | 142=>aD Tryz.prog Te 142
 | 143=>some ⟨1,8,[(.var 1)],Mr,.plain⟩
 | _=>none
def tC(f:FuncId)(cf:CF)(h:PA f=some cf):∃t,aD Tryz.prog t f=some cf:=by
 unfold PA at h;split at h
 .cases h;exact⟨[0,1,2,3,4,8,9,10,11,21,42,45,46,52,62,63],kR⟩
 .cases h;exact⟨[0,1,4,5,6,8,10],kR⟩
 .exact⟨_,h⟩
 .cases h;exact⟨[0,1,2,3,5,8],kR⟩
 .cases h;exact⟨[0,1,2,3,6,7,8,11,12,17],kR⟩
 .cases h;exact⟨[0,2,3,16],kR⟩
 .cases h;exact⟨[0,2,3,4,5,6,12,13,14,20,23,24,27,28,31,32,36,39,40,41],kR⟩
 .cases h;exact⟨[0,2,3,21,22,33],kR⟩
 .cases h;exact⟨[0,2,3,4,5,6,10,11,12,20,26,29,31,34,44,49,53,55,56,60,64,66,67],kR⟩
 .cases h;exact⟨[0,2,3,4,5,7,8,9,10,35,50,56,60,61,62,69,75,78,80,84,87,99,101,105,106,113,114,119,120,121,124,125,128,131,132,136,143,144,145,146],kR⟩
 .cases h;exact⟨[0,2,4,17,18,19],kR⟩
 .cases h;exact⟨Tb,kR⟩
 .cases h;exact⟨Tc,kR⟩
 .cases h;exact⟨Td,kR⟩
 .exact⟨_,h⟩
 .cases h;exact⟨[0,2,3,4,5,35,37,38],kR⟩
 .grind
noncomputable def PB:Wl
 | 144=>some ⟨2,12,[(.var 3)],Ms,.plain⟩
 | 145=>some ⟨2,11,[(.var 3)],Mt,.plain⟩
 | 146=>some ⟨2,32,[(.var 3),(.var 4)],Mu,.plain⟩
 | 147=>some ⟨3,11,[(.var 4)],Mw,.plain⟩
 | 148=>some ⟨2,5,[(.var 3)],Mx,.plain⟩
 | 149=>some ⟨4,39,[(.var 5)],My,.plain⟩
 | 150=>some ⟨3,7,[(.var 3),(.var 4),(.var 5),(.var 6)],Mz,.plain⟩
 | 151=>some ⟨1,13,[(.var 1),(.var 2)],NA,.plain⟩
 | 152=>some ⟨1,10,[(.var 1),(.var 2)],NB,.plain⟩
 | 153=>aD Tryz.prog Tf 153
 | 154=>aD Tryz.prog Tg 154
 | 155=>aD Tryz.prog Th 155
 | 156=>aD Tryz.prog Ti 156
 | 157=>aD Tryz.prog Tj 157
 | 158=>aD Tryz.prog Tk 158
 | 159=>some ⟨1,3,[(.var 1)],NC,.plain⟩
 | _=>none
def tD(f:FuncId)(cf:CF)(h:PB f=some cf):∃t,aD Tryz.prog t f=some cf:=by
 unfold PB at h;split at h
 .cases h;exact⟨[0,1,2,4,5,6,7,9,16,24,25,26],kR⟩
 .cases h;exact⟨[0,1,2,4,5,6,7,8,10,12,26],kR⟩
 .cases h;exact⟨[0,1,2,4,5,6,7,8,9,10,11,12,13,14,15,16,28,29,30,33,39,40,41,46,47,48,49,50,53,54,55,56],kR⟩
 .cases h;exact⟨[0,1,2,3,6,7,8,16,20,24,25],kR⟩
 .cases h;exact⟨[0,1,2,4,10],kR⟩
 .cases h;exact⟨[0,1,2,3,4,8,9,10,11,12,13,14,15,16,17,24,25,31,32,35,36,42,54,61,71,72,73,80,81,82,83,84,88,89,90,91,92,93,94],kR⟩
 .cases h;exact⟨[0,1,2,6,7,8,9],kR⟩
 .cases h;exact⟨[0,2,3,4,5,6,7,8,9,46,74,77,79],kR⟩
 .cases h;exact⟨[0,2,3,4,5,6,7,25,32,33],kR⟩
 .exact⟨_,h⟩
 .exact⟨_,h⟩
 .exact⟨_,h⟩
 .exact⟨_,h⟩
 .exact⟨_,h⟩
 .exact⟨_,h⟩
 .cases h;exact⟨[0,2,5],kR⟩
 .grind
noncomputable def Gm:Wl
 | 160=>some ⟨1,7,[(.var 1)],ND,.plain⟩
 | 161=>aD Tryz.prog Tl 161
 | 162=>aD Tryz.prog Tm 162
 | 163=>aD Tryz.prog Tn 163
 | 164=>aD Tryz.prog To 164
 | 165=>aD Tryz.prog Tp 165
 | 166=>aD Tryz.prog Tq 166
 | 167=>aD Tryz.prog Tr 167
 | 169=>some ⟨1,20,[(.var 1)],NG,.plain⟩
 | 170=>some ⟨1,3,[(.var 1)],Fz,.plain⟩
 | 171=>some ⟨2,8,[(.var 2)],NH,.plain⟩
 | 172=>some ⟨1,3,[(.var 1)],NI,.plain⟩
 | 173=>some ⟨1,6,[(.var 2)],NJ,.plain⟩
 | 174=>some ⟨3,8,[(.var 4)],NK,.plain⟩
 | 175=>some ⟨1,6,[(.var 2)],NL,.plain⟩
 | _=>none
def qu(f:FuncId)(cf:CF)(h:Gm f=some cf):∃t,aD Tryz.prog t f=some cf:=by
 unfold Gm at h;split at h
 .cases h;exact⟨[0,2,3,5,6,8,14],kR⟩
 .exact⟨_,h⟩
 .exact⟨_,h⟩
 .exact⟨_,h⟩
 .exact⟨_,h⟩
 .exact⟨_,h⟩
 .exact⟨_,h⟩
 .exact⟨_,h⟩
 .cases h;exact⟨[0,2,3,4,5,6,7,8,9,10,17,23,24,48,51,52,55,57,58,61],kR⟩
 .cases h;exact⟨[0,2,3],kR⟩
 .cases h;exact⟨[0,1,4,5,8,10,15,23],kR⟩
 .cases h;exact⟨[0,2,3],kR⟩
 .cases h;exact⟨[0,1,2,3,12,15],kR⟩
 .cases h;exact⟨[0,1,2,3,6,7,16,20],kR⟩
 .cases h;exact⟨[0,1,2,3,6,9],kR⟩
 .grind
noncomputable def Gp:Wl
 | 176=>some GU
 | 177=>some ⟨3,23,[(.var 5)],NM,.plain⟩
 | 178=>some ⟨5,20,[(.var 6)],NN,.plain⟩
 | 179=>some ⟨2,3,[(.var 2)],NO,.plain⟩
 | 180=>some ⟨4,20,[(.var 5)],NP,.plain⟩
 | 181=>some ⟨2,28,[(.var 3)],NQ,.plain⟩
 | 182=>some ⟨3,11,[(.var 4)],NR,.plain⟩
 | 183=>some ⟨2,10,[(.var 3)],NS,.plain⟩
 | 184=>some ⟨3,5,[(.var 4)],NT,.plain⟩
 | 185=>some ⟨3,5,[(.var 4)],NU,.plain⟩
 | 186=>some ⟨3,5,[(.var 4)],NV,.plain⟩
 | 187=>some ⟨2,18,[(.node (.ld 2 true)<|.cons (.var 3) .nil),(.var 4),(.var 5)],NW,.plain⟩
 | 188=>some CP
 | 189=>some SG
 | 190=>some ⟨3,11,[(.var 4)],NY,.plain⟩
 | 191=>some ⟨2,3,[(.var 2)],NZ,.plain⟩
 | _=>none
def qv(f:FuncId)(cf:CF)(h:Gp f=some cf):∃t,aD Tryz.prog t f=some cf:=by
 unfold Gp at h;split at h<;>try cases h
 .exact⟨Tt,kR⟩
 .exact⟨[0,1,2,3,4,6,7,8,9,11,14,16,17,25,26,27,28,32,33,34,41,42,43],kR⟩
 .exact⟨[0,1,2,3,4,5,10,11,12,13,21,25,26,27,32,35,36,42,46,47],kR⟩
 .exact⟨[0,1,4],kR⟩
 .exact⟨[0,1,2,3,4,8,9,10,11,12,14,15,16,17,35,38,39,45,52,53],kR⟩
 .exact⟨[0,1,2,4,5,6,7,8,9,10,11,12,13,14,15,16,18,19,33,34,46,47,52,53,54,55,59,60],kR⟩
 .exact⟨[0,1,2,3,6,7,8,16,20,24,25],kR⟩
 .exact⟨[0,1,2,4,5,6,13,23,24,25],kR⟩
 .exact⟨[0,1,2,3,6],kR⟩
 .exact⟨[0,1,2,3,6],kR⟩
 .exact⟨[0,1,2,3,6],kR⟩
 .exact⟨[0,1,2,4,5,6,7,10,21,29,31,40,42,51,53,65,86,89],kR⟩
 .exact⟨Tu,kR⟩
 .exact⟨[0,2,3,4,5,6,7,9,31,32,33,35,61],kR⟩
 .exact⟨[0,1,2,3,6,7,8,15,19,23,24],kR⟩
 .exact⟨[0,1,4],kR⟩
noncomputable def Gq:Wl
 | 192=>some ⟨5,21,[(.var 6)],N0,.plain⟩
 | 193=>some ⟨1,16,[(.var 1)],N1,.plain⟩
 | 194=>some ⟨2,4,[(.var 2)],N5,.plain⟩
 | 195=>aD Tryz.prog Tv 195
 | 196=>aD Tryz.prog Tw 196
 | 197=>aD Tryz.prog Tz 197
 | 198=>aD Tryz.prog UA 198
 | 199=>aD Tryz.prog UB 199
 | 200=>some ⟨1,4,[(.var 1)],N6,.plain⟩
 | 201=>some ⟨2,9,[(.var 2)],N7,.plain⟩
 | 202=>some ⟨2,7,[(.var 3)],N8,.plain⟩
 | 203=>some ⟨2,7,[(.var 3)],N9,.plain⟩
 | 204=>some ⟨3,5,[(.var 4)],Na,.plain⟩
 | 205=>some ⟨2,3,[(.var 2)],Nb,.plain⟩
 | 206=>some ⟨2,8,[(.node (.ld 2 true)<|.cons (.var 3) .nil)],Nc,.plain⟩
 | 207=>some ⟨2,15,[(.node (.ld 2 true)<|.cons (.var 2) .nil),(.var 3)],Nf,.plain⟩
 | _=>none
def qw(f:FuncId)(cf:CF)(h:Gq f=some cf):∃t,aD Tryz.prog t f=some cf:=by
 unfold Gq at h;split at h
 .cases h;exact⟨[0,1,2,3,4,5,10,11,12,13,21,31,32,37,38,39,40,41,44,45,46],kR⟩
 .cases h;exact⟨[0,2,3,4,5,6,7,8,9,10,44,47,48,51,61,68],kR⟩
 .cases h;exact⟨[0,1,4,5],kR⟩
 .exact⟨_,h⟩
 .exact⟨_,h⟩
 .exact⟨_,h⟩
 .exact⟨_,h⟩
 .exact⟨_,h⟩
 .cases h;exact⟨[0,2,5,7],kR⟩
 .cases h;exact⟨[0,1,4,6,8,10,11,13,15],kR⟩
 .cases h;exact⟨[0,1,2,4,5,6,19],kR⟩
 .cases h;exact⟨[0,1,2,4,5,6,13],kR⟩
 .cases h;exact⟨[0,1,2,3,6],kR⟩
 .cases h;exact⟨[0,1,4],kR⟩
 .cases h;exact⟨[0,1,2,4,6,10,19,28],kR⟩
 .cases h;exact⟨[0,1,4,5,7,8,10,22,23,24,37,38,39,48,55],kR⟩
 .grind
noncomputable def Gr:Wl
 | 209=>aD Tryz.prog UC 209
 | 210=>aD Tryz.prog UD 210
 | 211=>some ⟨1,2,[(.var 1)],Ng,.plain⟩
 | 212=>some ⟨3,18,[(.var 3)],Nh,.plain⟩
 | 213=>some ⟨2,3,[(.node (.ld 2 true)<|.cons (.var 2) .nil)],Ni,.plain⟩
 | 214=>some ⟨1,4,[(.var 2)],Nj,.plain⟩
 | 215=>some ⟨2,9,[(.var 2),(.var 3)],Nk,.plain⟩
 | 216=>aD Tryz.prog UE 216
 | 217=>aD Tryz.prog UF 217
 | 218=>aD Tryz.prog UG 218
 | 219=>aD Tryz.prog UH 219
 | 221=>aD Tryz.prog UI 221
 | 222=>aD Tryz.prog UJ 222
 | 223=>some ⟨1,2,[(.node (.ld 2 true)<|.cons (.var 1) .nil)],Nl,.plain⟩
 | _=>none
def qx(f:FuncId)(cf:CF)(h:Gr f=some cf):∃t,aD Tryz.prog t f=some cf:=by
 unfold Gr at h;split at h
 .exact⟨_,h⟩
 .exact⟨_,h⟩
 .cases h;exact⟨[0,2],kR⟩
 .cases h;exact⟨[0,1,2,6,7,8,9,10,11,15,17,18,19,32,37,38,39,47],kR⟩
 .cases h;exact⟨[0,1,4],kR⟩
 .cases h;exact⟨[0,1,2,3],kR⟩
 .cases h;exact⟨[0,1,4,5,6,7,10,38,41],kR⟩
 .exact⟨_,h⟩
 .exact⟨_,h⟩
 .exact⟨_,h⟩
 .exact⟨_,h⟩
 .exact⟨_,h⟩
 .exact⟨_,h⟩
 .cases h;exact⟨[0,2],kR⟩
 .grind
noncomputable def Gs:Wl
 | 224=>some ⟨1,3,[(.var 1)],GC,.plain⟩
 | 226=>aD Tryz.prog UK 226
 | 227=>aD Tryz.prog UL 227
 | 229=>aD Tryz.prog UM 229
 | 230=>aD Tryz.prog UN 230
 | 231=>aD Tryz.prog UO 231
 | 233=>aD Tryz.prog UP 233
 | 234=>aD Tryz.prog UQ 234
 | 236=>aD Tryz.prog UR 236
 | 237=>aD Tryz.prog US 237
 | 238=>aD Tryz.prog UT 238
 | 239=>aD Tryz.prog UU 239
 | _=>none
def qy(f:FuncId)(cf:CF)(h:Gs f=some cf):∃t,aD Tryz.prog t f=some cf:=by
 unfold Gs at h;split at h
 .cases h;exact⟨[0,2,3],kR⟩
 .exact⟨_,h⟩
 .exact⟨_,h⟩
 .exact⟨_,h⟩
 .exact⟨_,h⟩
 .exact⟨_,h⟩
 .exact⟨_,h⟩
 .exact⟨_,h⟩
 .exact⟨_,h⟩
 .exact⟨_,h⟩
 .exact⟨_,h⟩
 .exact⟨_,h⟩
 .grind
noncomputable def Gt:Wl
 | 240=>aD Tryz.prog UW 240
 | 242=>aD Tryz.prog UX 242
 | 243=>aD Tryz.prog UY 243
 | 244=>aD Tryz.prog UZ 244
 | 245=>aD Tryz.prog U0 245
 | 246=>aD Tryz.prog U1 246
 | 247=>aD Tryz.prog U2 247
 | _=>none
def qz(f:FuncId)(cf:CF)(h:Gt f=some cf):∃t,aD Tryz.prog t f=some cf:=by
 unfold Gt at h;split at h
 .exact⟨_,h⟩
 .exact⟨_,h⟩
 .exact⟨_,h⟩
 .exact⟨_,h⟩
 .exact⟨_,h⟩
 .exact⟨_,h⟩
 .exact⟨_,h⟩
 .grind
noncomputable def cp(f:FuncId):Option CF:=match f/16 with
 | 0=>Oq f
 | 1=>Ot f
 | 2=>Ou f
 | 3=>Ov f
 | 4=>Ow f
 | 5=>Ox f
 | 6=>Oy f
 | 7=>Oz f
 | 8=>PA f
 | 9=>PB f
 | 10=>Gm f
 | 11=>Gp f
 | 12=>Gq f
 | 13=>Gr f
 | 14=>Gs f
 | 15=>Gt f
 | _=>none
def yt:je Tryz.prog cp:=by
 intro f cf h;unfold cp at h;split at h
 .exact .inl<|sn f cf h
 .exact .inl<|so f cf h
 .exact .inl<|sq f cf h
 .exact .inl<|sr f cf h
 .exact .inl<|ss f cf h
 .exact .inl<|su f cf h
 .exact .inl<|sw f cf h
 .exact .inl<|tB f cf h
 .exact .inl<|tC f cf h
 .exact .inl<|tD f cf h
 .exact .inl<|qu f cf h
 .exact .inl<|qv f cf h
 .exact .inl<|qw f cf h
 .exact .inl<|qx f cf h
 .exact .inl<|qy f cf h
 .exact .inl<|qz f cf h
 .grind
def mixed:Tryz.prog.follows .mixedOrders=true:=by kernel_rfl
def Sr(a n:Nat):RunOK Tryz.prog a Tryz.prog.globals.size<|run cp n:=sound mixed yt a n
end Go.Proofs.YtgiojnobcjnibaaGreatDoor
