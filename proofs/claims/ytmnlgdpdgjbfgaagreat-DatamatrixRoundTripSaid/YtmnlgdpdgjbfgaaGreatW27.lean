/- Lemmas. -/
import Derived.Test.YtmnlgdpdgjbfgaaGreatW25
import Derived.Test.YtmnlgdpdgjbfgaaGreatW26
set_option linter.all false
namespace Go.Proofs.YtmnlgdpdgjbfgaaGreat
open Go.Abs
variable{H:Heap}{v:Value}
set_option maxRecDepth 20000
abbrev Rd:=Nat ⊕ (Nat×List UInt8)
abbrev wd(ws:List Nat)(i:Nat):Nat:=ws.getD i 0
def upS(ws:List Nat)(a:Nat)(out:List UInt8):Rd:=
 if ws.length<=a then .inl 10 else if wd ws a<1\/128<wd ws a then .inl 22 else .inr (a+1,out++[UInt8.ofNat (wd ws a+127)])
def kv(ws:List Nat)(a:Nat):Nat ⊕ Option (Nat×Nat×Nat):=
 if ws.length<=a then .inl 10 else if wd ws a=254 then .inr none else if ws.length<=a+1 then .inl 10
 else if 256*wd ws a+wd ws (a+1)<1\/64000<256*wd ws a+wd ws (a+1) then .inl 22
 else .inr (some ((256*wd ws a+wd ws (a+1)-1)/1600,(256*wd ws a+wd ws (a+1)-1)/40%40,(256*wd ws a+wd ws (a+1)-1)%40))
def jZ(lower:Bool)(set v:Nat):Nat:=
 if set=0/\v=3 then 32 else if set=0/\4<=v/\v<=13 then 44+v else if set=0/\14<=v then(if lower then 83+v else 51+v)
 else if set=1/\v<=31 then v else if set=2/\v<=14 then 33+v else if set=2/\v<=21 then 43+v else if set=2/\v<=26 then 69+v
 else if set=3/\v<=31 then(if lower=true/\1<=v/\v<=26 then 64+v else 96+v) else 128
def kx(lower:Bool)(s:Nat×Bool×List UInt8)(v:Nat):Nat ⊕ (Nat×Bool×List UInt8):=
 if s.1=0/\v<=2 then .inr (v+1,s.2.1,s.2.2)
 else if s.1=2/\v=30/\s.2.1=false then .inr (0,true,s.2.2)
 else if jZ lower s.1 v=128 then .inl 22
 else .inr (0,false,s.2.2++[UInt8.ofNat (if s.2.1 then jZ lower s.1 v+128 else jZ lower s.1 v)])
def tS(lower:Bool)(s:Nat×Bool×List UInt8)(u:Nat×Nat×Nat):Nat ⊕ (Nat×Bool×List UInt8):=match kx lower s u.1 with
 | .inl e=>.inl e
 | .inr s1=>match kx lower s1 u.2.1 with
  | .inl e=>.inl e
  | .inr s2=>kx lower s2 u.2.2
def kp(ws:List Nat)(lower:Bool):Nat->Nat->Nat×Bool×List UInt8->Rd
 | 0,_,_=>.inl 10
 | f+1,a,s=>match kv ws a with
  | .inl e=>.inl e
  | .inr none=>.inr (a+1,s.2.2)
  | .inr (some u)=>match tS lower s u with
   | .inl e=>.inl e
   | .inr s'=>kp ws lower f (a+2) s'
def kj(v:Nat):Nat:=if 14<=v then 51+v else if 4<=v then 44+v else if v=0 then 13 else if v=1 then 42 else if v=2 then 62 else 32
def lq(ws:List Nat):Nat->Nat->List UInt8->Rd
 | 0,_,_=>.inl 10
 | f+1,a,out=>match kv ws a with
  | .inl e=>.inl e
  | .inr none=>.inr (a+1,out)
  | .inr (some u)=>lq ws f (a+2) (out++[UInt8.ofNat (kj u.1),UInt8.ofNat (kj u.2.1),UInt8.ofNat (kj u.2.2)])
def k7(ws:List Nat)(a bit:Nat):Nat:=(256*wd ws (a+bit/8)+if bit/8<(bit+5)/8 then wd ws (a+(bit+5)/8) else 0)/2^(10-bit%8)%64
def lJ(ws:List Nat)(a:Nat):Nat->Nat->List UInt8->Rd
 | 0,_,_=>.inl 10
 | f+1,bit,out=>if ws.length<=a+(bit+5)/8 then .inl 10
  else if k7 ws a bit=31 then(if wd ws (a+(bit+5)/8)%2^((8-(bit+6)%8)%8)≠0 then .inl 22 else .inr (a+(bit+5)/8+1,out))
  else lJ ws a f (bit+6) (out++[UInt8.ofNat (if k7 ws a bit<32 then k7 ws a bit+64 else k7 ws a bit)])
def unm(ws:List Nat)(a:Nat):Nat:=(wd ws a+256-msk a)%256
def qT(ws:List Nat):Nat->Nat->List UInt8->Rd
 | 0,a,out=>.inr (a,out)
 | n+1,a,out=>if ws.length<=a then .inl 10 else qT ws n (a+1) (out++[UInt8.ofNat (unm ws a)])
def wi(ws:List Nat)(a:Nat)(out:List UInt8):Rd:=
 if ws.length<=a then .inl 10 else if unm ws a=0 then .inl 22
 else if unm ws a<250 then qT ws (unm ws a) (a+1) out
 else if ws.length<=a+1 then .inl 10 else if 250<=unm ws (a+1) then .inl 22
 else qT ws (250*(unm ws a-249)+unm ws (a+1)) (a+2) out
def tI(ws:List Nat)(w a:Nat)(out:List UInt8):Rd:=
 if 1<=w/\w<=128 then .inr (a,out++[UInt8.ofNat (w-1)])
 else if 130<=w/\w<230 then .inr (a,out++[UInt8.ofNat (48+(w-130)/10),UInt8.ofNat (48+(w-130)%10)])
 else if w=235 then upS ws a out else if w=230 then kp ws false (ws.length+1) a (0,false,out) else if w=239 then kp ws true (ws.length+1) a (0,false,out)
 else if w=231 then wi ws a out else if w=238 then lq ws (ws.length+1) a out else if w=240 then lJ ws a (2*ws.length+2) 0 out else .inl 22
def uy(ws:List Nat):Nat->Nat->List UInt8->Nat ⊕ List UInt8
 | 0,_,out=>.inr out
 | f+1,a,out=>if ws.length<=a then .inr out else if wd ws a=129 then .inr out else match tI ws (wd ws a) (a+1) out with
  | .inl e=>.inl e
  | .inr (a',out')=>uy ws f a' out'
def IB(ws:List Nat):Nat ⊕ List UInt8:=uy ws (ws.length+1) 0 []
abbrev uU(l:List UInt8):List Value:=l.map vD
structure DcM (A H:Heap)(db:Nat)(wv:Value)(ws:List Nat)(a:Nat)(out:List UInt8):Prop where
 ext:Ext A H
 w:SlN A wv ws
 g:∃ov b,(H.get db=some [wv,aB a,ov]/\b≠db)/\Own A.length 1 H ov b (uU out)
 dbA:A.length<=db
 len:ws.length<=8192
 byt:∀k,ws.getD k 0<=255
 le:a<=ws.length
 big:out.length<=20000
theorem jI{n:Nat}(h:n<256):vD (UInt8.ofNat n)=.int .u8 (n:Nat):=by
 unfold vD;rw[UInt8.toNat_ofNat_of_lt' h]
theorem GG{lo b:Nat}{X:List Value}(h:Own lo 1 H v b X):∃ad n,v=.slice ad n n:=by
 obtain⟨ad,n,e,_⟩:=h.len byO;exact⟨ad,n,e⟩
theorem Sj:∀l:List UInt8,oneCells (uU l)=true
 | []=>rfl
 | x::l=>by simp[uU,oneCells,Value.oneCell']
section
variable {A H:Heap}{db:Nat}{wv:Value}{ws:List Nat}{a:Nat}{out:List UInt8}{lo:Nat}
theorem DcM.mono{H':Heap}(h:DcM A H db wv ws a out)(e:Ext H H'):DcM A H' db wv ws a out:=by
 obtain⟨ov,b,⟨g1,g2⟩,g3⟩:=h.g;exact⟨h.ext.trans e,h.w,⟨ov,b,⟨e.get g1,g2⟩,g3.mono e⟩,h.dbA,h.len,h.byt,h.le,h.big⟩
theorem DcM.keep{H':Heap}{c n:Nat}{Y:List Value}(h:DcM A H db wv ws a out)(hc:c≠db)(hA:A.length<=c)(hX:H.get c=some (aB n::Y))(hk:Keep c H H'):DcM A H' db wv ws a out:=by
 obtain⟨ov,b,⟨g1,g2⟩,g3⟩:=h.g;refine⟨hk.ext h.ext hA,h.w,?_,h.dbA,h.len,h.byt,h.le,h.big⟩;obtain⟨h1,⟨h2,h3⟩|⟨m,h2,h3,h4,h5⟩⟩:=g3
 ·exact⟨ov,db+1,⟨hk.get g1 (fun e=>hc e.symm),byO⟩,by have:=h.dbA;omega,.inl ⟨h2,h3⟩⟩
 ·have hbc:b≠c:=by
   rintro rfl;rw[hX]at h5
   match out,h5 with
   | [],h5=>simp at h5
   | x::out,h5=>simp at h5
  exact⟨ov,b,⟨hk.get g1 (fun e=>hc e.symm),g2⟩,h1,.inr ⟨m,h2,h3,h4,hk.get h5 hbc⟩⟩
theorem DcM.move{ov:Value}{a':Nat}(h:DcM A H db wv ws a out)(hg:H.get db=some [wv,aB a,ov])(ha:a'<=ws.length):DcM A (List.set H db (some [wv,aB a',ov])) db wv ws a' out:=by
 obtain⟨ov',b,⟨g1,g2⟩,g3⟩:=h.g;rw[hg]at g1;cases g1;exact⟨keepSet.ext h.ext h.dbA,h.w,⟨ov,b,⟨aE (Heap.get_lt hg),g2⟩,g3.keep keepSet g2⟩,h.dbA,h.len,h.byt,ha,h.big⟩
theorem rF{cp:FuncId->Option CF}{z:List Value}{ov:Value}{n:Nat}{l:List UInt8}{R:Value->Heap->Prop}(h:DcM A H db wv ws a out)(hg:H.get db=some [wv,aB a,ov])(hlo:lo<=A.length)(hn:l.length=n)(hn0:0<n)(hbig:out.length+n<=20000)
  (k:∀(ad:Option Addr) (m:Nat) (H2:Heap),H2.get db=some [wv,aB a,ov]->db<H2.length->DcM A (List.set H2 db (some [wv,aB a,.slice ad m m])) db wv ws a (out++l)->R (.slice ad m m) H2):wpH cp lo (.app 1 z) [ov,.slice (some ⟨H.length,0,none⟩) n n] (H++[some (uU l)]) R:=by
 obtain⟨ov',b,⟨g1,g2⟩,g3⟩:=h.g;rw[hg]at g1;cases g1;have hx:Ext H (H++[some (uU l)]):=Ext.app _ _;have hA:=h.ext.1;refine gQ ((g3.lower hlo).mono hx) (by simp;omega) byO hn0 (by simp;omega) aH (c:=uU l) (by simp;omega) (by rw[List.drop_zero,List.take_of_length_le (by simp;omega)]) (Sj l) ?_;intro w' H2 ho hk hl;obtain⟨ad,m,rfl⟩:=GG ho;have hdl:=Heap.get_lt hg;have hl1:(H++[some (uU l)]).length=H.length+1:=by simp
 have hb:A.length<=b:=g3.1;have hg2:=hk.get (hx.get hg) (fun e=>g2 e.symm);refine k ad m H2 hg2 byO ⟨keepSet.ext (hk.ext (h.ext.trans hx) hb) h.dbA,h.w,⟨_,H.length+1,⟨aE byO,byO⟩,?_⟩,h.dbA,h.len,h.byt,h.le,by simp;omega⟩;have:Own A.length 1 H2 (.slice ad m m) (H.length+1) (uU (out++l)):=by
  rw[hl1]at ho;obtain⟨h1,h2⟩:=ho;exact⟨byO,by simpa[uU]using h2⟩
 exact this.keep keepSet byO
theorem DcM.at{k:Nat}(h:DcM A H db wv ws a out)(hk:k<ws.length):∃b o xs,aI (.iAddr 1) [wv,.int .i64 (k:Nat)] H=some (.pointer (some ⟨b,o,none⟩))/\H.get b=some xs/\xs[o]?=some (aB (wd ws k)):=AK (h.w.mono h.ext) hk
def xj(A:Heap)(db:Nat)(wv:Value)(ws:List Nat)(r:Value)(H':Heap):Rd->Prop
 | .inl e=>r=.int .i64 (e:Nat)/\Ext A H'/\e≠0
 | .inr (a,out)=>r=.int .i64 0/\DcM A H' db wv ws a out
open XMDc
theorem upP(hd:DcM A H db wv ws a out)(hlo:lo<=A.length)(hb:out.length+1<=20000):Ev cp lo 138 [ptr db] H (fun r H'=>xj A db wv ws r H' (upS ws a out)):=by
 obtain⟨ov,b,⟨hg,hne⟩,ho⟩:=hd.g;have hlen:=hd.len;have hle:=hd.le;have hdA:=hd.dbA;have hdl:=Heap.get_lt hg;obtain⟨aw,cw,ew⟩:=hd.w.len;subst ew;have hx0:=hd.ext;unfold upS;refine stG rfl rfl ?_;unfold Kk;simp only[kB,aC];refine aG ?_;by_cases ha:ws.length<=a
 ·have hdd:decide ((a:Int)>=(ws.length:Nat))=true:=decide_eq_true byO
  have hdd2:decide ((ws.length:Int)<=(a:Nat))=true:=decide_eq_true byO;rw[if_pos ha];refine aN ?_ ?_<;>intro h
  ·refine aG ?_
   refine bg ?_;exact⟨rfl,hx0,byO⟩
  ·simp at h
 have hdd:decide ((a:Int)>=(ws.length:Nat))=false:=decide_eq_false byO;have hdd2:decide ((ws.length:Int)<=(a:Nat))=false:=decide_eq_false byO;rw[if_neg ha];obtain⟨b1,o1,x1,i1,g1,e1⟩:=hd.at (k:=a) byO;have hby:=hd.byt a;generalize hx:wd ws a=x at e1;replace hby:x<=255:=by rw[<-hx];exact hby
 clear hx;refine aN ?_ ?_<;>intro h
 ·simp at h
 clear h hdd hdd2;refine aG ?_;by_cases hx:x<1\/128<x
 ·have hdd:(decide ((x:Int)<1) || decide ((x:Int)>128))=true:=by simp;omega
  rw[if_pos hx];refine aN ?_ ?_<;>intro h
  ·refine aG ?_
   refine bg ?_;exact⟨rfl,hx0,byO⟩
  ·simp at h
 have hx1:1<=x:=byO;have hx2:x<=128:=byO;have hd1:decide ((x:Int)<1)=false:=decide_eq_false byO;have hd2:decide ((x:Int)>128)=false:=decide_eq_false byO;have hd3:decide ((128:Int)<(x:Nat))=false:=decide_eq_false byO;rw[if_neg hx];clear hx;have hmv:=hd.move (a':=a+1) hg byO;refine aN ?_ ?_<;>intro h
 ·exfalso;first|(simp at h;done)|cases h
 clear h hd1 hd2 hd3;refine aG ?_;have hg1:Heap.get (List.set H db (some [.slice aw ws.length cw,aB (a+1),ov])) db=some [.slice aw ws.length cw,aB (a+1),ov]:=aE hdl;change wpS cp lo _ _ _ (List.set H db (some [.slice aw ws.length cw,aB (a+1),ov])++[some [Value.int .u8 ((x+127:Nat):Int)]]);have hl1:H.length=(List.set H db (some [.slice aw ws.length cw,aB (a+1),ov])).length:=by simp
 generalize List.set H db (some [.slice aw ws.length cw,aB (a+1),ov])=H1 at hmv hg1 hl1;rw[hl1];rw[<-jI (n:=x+127) byO];refine cY ?_;refine rF (n:=1) (l:=[UInt8.ofNat (x+127)]) hmv hg1 hlo rfl byO hb ?_;intro ad m H2 hg2 hl2 hd2;refine aG ?_;refine bg ?_;exact⟨rfl,hd2⟩
def Oh(u:Nat×Nat×Nat):Value:=.agg #[aB u.1,aB u.2.1,aB u.2.2]
def QO(A:Heap)(db:Nat)(wv:Value)(ws:List Nat)(a:Nat)(out:List UInt8)(r:Value)(H':Heap):Nat ⊕ Option (Nat×Nat×Nat)->Prop
 | .inl e=>r=.tuple #[Oh (0,0,0),.bool false,.int .i64 (e:Nat)]/\Ext A H'/\e≠0
 | .inr none=>r=.tuple #[Oh (0,0,0),.bool true,.int .i64 0]/\DcM A H' db wv ws (a+1) out
 | .inr (some u)=>r=.tuple #[Oh u,.bool false,.int .i64 0]/\DcM A H' db wv ws (a+2) out/\(u.1<=39/\u.2.1<=39/\u.2.2<=39)/\a+2<=ws.length
theorem Lh(hd:DcM A H db wv ws a out)(hlo:lo<=A.length):Ev cp lo 182 [ptr db] H (fun r H'=>QO A db wv ws a out r H' (kv ws a)):=by
 obtain⟨ov,b,⟨hg,hne⟩,ho⟩:=hd.g;have hlen:=hd.len;have hle:=hd.le;have hdA:=hd.dbA;have hdl:=Heap.get_lt hg;obtain⟨aw,cw,ew⟩:=hd.w.len;subst ew;have hlA:=hd.ext.1;unfold kv;refine stG rfl rfl ?_;unfold LS;simp only[kB,aC];refine aG ?_;have hxb:Ext H (H++[some [aB 0,aB 0,aB 0]]):=Ext.app _ _;have hgb:(H++[some [aB 0,aB 0,aB 0]]).get H.length=some [aB 0,aB 0,aB 0]:=aH;have hgd:=hxb.get hg;have hd1:=hd.mono hxb;change wpS cp lo _ _ _ (H++[some [aB 0,aB 0,aB 0]]);generalize H++[some [aB 0,aB 0,aB 0]]=H1 at hxb hgb hgd hd1;have hbl:=Heap.get_lt hgb;have hx1:=hd1.ext;have hne3:H.length≠db:=byO;by_cases ha:ws.length<=a
 ·have hdd:decide ((a:Int)>=(ws.length:Nat))=true:=decide_eq_true byO
  have hdd2:decide ((ws.length:Int)<=(a:Nat))=true:=decide_eq_true byO;rw[if_pos ha];refine aN ?_ ?_<;>intro h
  ·refine aG ?_
   have hgz:=aE (c:=[aB 0,aB 0,aB 0]) hbl;have hxz:Ext A (List.set H1 H.length (some [aB 0,aB 0,aB 0])):=keepSet.ext hx1 hlA;generalize List.set H1 H.length (some [aB 0,aB 0,aB 0])=H2 at hgz hxz;refine bg ?_;exact⟨rfl,hxz,byO⟩
  ·simp at h
 have hdd:decide ((a:Int)>=(ws.length:Nat))=false:=decide_eq_false byO;have hdd2:decide ((ws.length:Int)<=(a:Nat))=false:=decide_eq_false byO;rw[if_neg ha];obtain⟨b1,o1,x1,i1,g1,e1⟩:=hd1.at (k:=a) byO;have hby:=hd.byt a;obtain⟨x,hx⟩:∃x,False\/wd ws a=x:=⟨_,.inr rfl⟩;rw[hx.resolve_left id]at e1 ⊢;replace hby:x<=255:=by rw[<-hx.resolve_left id];exact hby
 refine aN ?_ ?_<;>intro h
 ·simp at h
 clear h hdd hdd2;(try simp only[aC]);by_cases h254:x=254
 ·have hdd:decide ((x:Int)=254)=true:=decide_eq_true byO
  rw[if_pos h254];replace h254:x<=254:=byO;refine aN ?_ ?_<;>intro h
  ·clear h hdd
   refine aG ?_;have hmv:=hd1.move (a':=a+1) hgd byO;have hgz:Heap.get (List.set H1 db (some [.slice aw ws.length cw,aB (a+1),ov])) H.length=some [aB 0,aB 0,aB 0]:=by rw[aF byO];exact hgb
   have hlz:=Heap.get_lt hgz;have hfin:=hmv.keep (c:=H.length) hne3 hlA hgz (keepSet (x:=some [aB 0,aB 0,aB 0]));have hgy:=aE (c:=[aB 0,aB 0,aB 0]) hlz;change ef _ _ .ret _ (List.set (List.set H1 db (some [.slice aw ws.length cw,aB (a+1),ov])) H.length (some [aB 0,aB 0,aB 0]));generalize List.set (List.set H1 db (some [.slice aw ws.length cw,aB (a+1),ov])) H.length (some [aB 0,aB 0,aB 0])=H2 at hfin hgy;refine bg ?_;exact⟨rfl,hfin⟩
  ·simp at h
 have hdd:decide ((x:Int)=254)=false:=decide_eq_false byO;rw[if_neg h254];refine aN ?_ ?_<;>intro h
 ·simp at h
 clear h hdd;(try simp only[aC]);by_cases ha1:ws.length<=a+1
 ·have hdd:decide ((a:Int)+1>=(ws.length:Nat))=true:=decide_eq_true byO
  have hdd2:decide ((ws.length:Int)<=(a:Nat)+1)=true:=decide_eq_true byO;rw[if_pos ha1];refine aN ?_ ?_<;>intro h
  ·refine aG ?_
   have hgz:=aE (c:=[aB 0,aB 0,aB 0]) hbl;have hxz:Ext A (List.set H1 H.length (some [aB 0,aB 0,aB 0])):=keepSet.ext hx1 hlA;generalize List.set H1 H.length (some [aB 0,aB 0,aB 0])=H2 at hgz hxz;refine bg ?_;exact⟨rfl,hxz,byO⟩
  ·simp at h
 have hdd:decide ((a:Int)+1>=(ws.length:Nat))=false:=decide_eq_false byO;have hdd2:decide ((ws.length:Int)<=(a:Nat)+1)=false:=decide_eq_false byO;rw[if_neg ha1];obtain⟨b2,o2,x2,i2,g2,e2⟩:=hd1.at (k:=a+1) byO;have hby2:=hd.byt (a+1);obtain⟨y,hy⟩:∃y,False\/wd ws (a+1)=y:=⟨_,.inr rfl⟩;rw[hy.resolve_left id]at e2 ⊢;replace hby2:y<=255:=by rw[<-hy.resolve_left id];exact hby2
 simp only[ap₀,Int.natCast_one]at i2;refine aN ?_ ?_<;>intro h
 ·simp at h
 clear h hdd hdd2;refine aG ?_;by_cases hn:256*x+y<1\/64000<256*x+y
 ·have hdd:(decide (256*(x:Int)+(y:Nat)-1<0) || decide (256*(x:Int)+(y:Nat)-1>=64000))=true:=by simp;omega
  rw[if_pos hn];refine aN ?_ ?_<;>intro h
  ·refine aG ?_
   have hgz:=aE (c:=[aB 0,aB 0,aB 0]) hbl;have hxz:Ext A (List.set H1 H.length (some [aB 0,aB 0,aB 0])):=keepSet.ext hx1 hlA;generalize List.set H1 H.length (some [aB 0,aB 0,aB 0])=H2 at hgz hxz;refine bg ?_;exact⟨rfl,hxz,byO⟩
  ·simp at h
 rw[if_neg hn];obtain⟨n,hnn,hnl,hni⟩:∃n:Nat,256*x+y-1=n/\n<64000/\256*(x:Int)+(y:Nat)-1=(n:Nat):=⟨_,rfl,byO,byO⟩;rw[hnn];rw[hni];clear hnn hni hn;have q1:(n:Int).tdiv 1600=((n/1600:Nat):Int):=by rw[Int.tdiv_eq_ediv_of_nonneg byO];omega
 have q2:(n:Int).tdiv 40=((n/40:Nat):Int):=by rw[Int.tdiv_eq_ediv_of_nonneg byO];omega
 have q3:((n/40:Nat):Int).tmod 40=((n/40%40:Nat):Int):=by rw[Int.tmod_eq_emod_of_nonneg byO];omega
 have q4:(n:Int).tmod 40=((n%40:Nat):Int):=by rw[Int.tmod_eq_emod_of_nonneg byO];omega
 have r1:n/1600<=39:=byO;have r2:n/40%40<=39:=byO;have r3:n%40<=39:=byO;have r4:n/40<=1600:=byO;generalize n/1600=u1 at q1 r1;generalize n/40%40=u2 at q3 r2;generalize n%40=u3 at q4 r3;generalize n/40=n4 at q2 q3 r4;have hdd1:decide ((n:Int)<0)=false:=decide_eq_false byO;have hdd2:decide ((n:Int)>=64000)=false:=decide_eq_false byO;have hdd3:decide ((64000:Int)<=(n:Nat))=false:=decide_eq_false byO;refine aN ?_ ?_<;>intro h
 ·exfalso;first|(simp at h;done)|cases h
 clear h hdd1 hdd2 hdd3;refine aG ?_;have hmv:=hd1.move (a':=a+2) hgd byO;have hgz:Heap.get (List.set H1 db (some [.slice aw ws.length cw,aB (a+2),ov])) H.length=some [aB 0,aB 0,aB 0]:=by rw[aF byO];exact hgb
 have hlz:=Heap.get_lt hgz;have hfin:=hmv.keep (c:=H.length) hne3 hlA hgz (keepSet (x:=some [aB u1,aB u2,aB u3]));have hgy:=aE (c:=[aB u1,aB u2,aB u3]) hlz;change ef _ _ .ret _ (List.set (List.set H1 db (some [.slice aw ws.length cw,aB (a+2),ov])) H.length (some [aB u1,aB u2,aB u3]));generalize List.set (List.set H1 db (some [.slice aw ws.length cw,aB (a+2),ov])) H.length (some [aB u1,aB u2,aB u3])=H2 at hfin hgy;refine bg ?_;exact⟨rfl,hfin,⟨r1,r2,r3⟩,byO⟩
def Mz(a:Int)(b:Bool):Option (Value×Heap)->Bool
 | some (.tuple cs,_)=>match cs.toList with
  | [.int .u8 x,.bool y]=>x==a&&y==b
  | _=>false
 | _=>false
theorem Iq{a:Int}{b:Bool}{r:Option (Value×Heap)}(h:Mz a b r=true):r.map (·.1)=some (.tuple [Value.int .u8 a,Value.bool b].toArray):=by
 match r,h with
 | some (.tuple cs,H),h=>
  simp only[Mz]at h;split at h
  ·rename_i x y e
   simp only[ac₀,beq_iff_eq]at h;obtain⟨rfl,rfl⟩:=h;have:cs=[Value.int .u8 x,Value.bool y].toArray:=by rw[<-e]
   rw[this];rfl
  ·cases h
def isU(n:Int):Option (Value×Heap)->Bool
 | some (.int .u8 m,_)=>m==n
 | _=>false
theorem NA{n:Int}{r:Option (Value×Heap)}(h:isU n r=true):r.map (·.1)=some (.int .u8 n):=by
 match r,h with
 | some (.int .u8 m,_),h=>
  have h':m=n:=by simpa[isU]using h
  rw[h'];rfl
theorem Rj:(List.range 4).all (fun s=>(List.range 40).all fun k=>[false,true].all fun b=>Mz (if jZ b s k=128 then 0 else jZ b s k) (jZ b s k != 128) ((run cp 4).ret 0 183 [.bool b,.int .i64 (s:Nat),.int .i64 (k:Nat)] []))=true:=by kernel_rfl
theorem TX:(List.range 40).all (fun k=>isU (kj k:Nat) ((run cp 4).ret 0 185 [.int .i64 (k:Nat)] []))=true:=by kernel_rfl
theorem Ri{b:Bool}{s k:Nat}(hs:s<4)(hk:k<40)(hlo:lo<=H.length):Ev cp lo 183 [.bool b,aB s,aB k] H (fun v H'=>v=.tuple #[.int .u8 (if jZ b s k=128 then 0 else jZ b s k:Nat),.bool (jZ b s k != 128)]/\Ext H H'):=by
 have h:=List.all_eq_true.1 (List.all_eq_true.1 (List.all_eq_true.1 Rj s (List.mem_range.2 hs)) k (List.mem_range.2 hk)) b (by cases b<;>simp);have e:=Iq h;have e2:(if jZ b s k=128 then(0:Int) else(jZ b s k:Nat))=((if jZ b s k=128 then 0 else jZ b s k:Nat):Int):=by split<;>rfl
 rw[e2]at e;exact rO lD (n:=4) rfl e rfl hlo
theorem TW{k:Nat}(hk:k<40)(hlo:lo<=H.length):Ev cp lo 185 [aB k] H (fun v H'=>v=.int .u8 (kj k:Nat)/\Ext H H'):=
 pD lD (n:=4) (v:=.int .u8 (kj k:Nat)) rfl (NA (List.all_eq_true.1 TX k (List.mem_range.2 hk))) rfl hlo
end
def u3(u:Nat×Nat×Nat):Nat->Nat
 | 0=>u.1
 | 1=>u.2.1
 | _=>u.2.2
def vK(lower:Bool)(u:Nat×Nat×Nat)(s:Nat×Bool×List UInt8):Nat->Nat ⊕ (Nat×Bool×List UInt8)
 | 0=>.inr s
 | k+1=>match vK lower u s k with
  | .inl e=>.inl e
  | .inr s'=>kx lower s' (u3 u k)
theorem TD(lower:Bool)(u:Nat×Nat×Nat)(s:Nat×Bool×List UInt8):vK lower u s 3=tS lower s u:=by
 simp only[vK,tS,u3];cases kx lower s u.1 with
 | inl e=>rfl
 | inr s1=>rfl
theorem HI{lower:Bool}{u:Nat×Nat×Nat}{s:Nat×Bool×List UInt8}{e k:Nat}(h:vK lower u s k=.inl e):∀m,vK lower u s (k+m)=.inl e
 | 0=>h
 | m+1=>by
  have:=HI h m;show(match vK lower u s (k+m)with | .inl e=>Sum.inl e | .inr s'=>kx lower s' (u3 u (k+m)))=_;rw[this]
theorem Ho{b:Bool}{s k:Nat}(hk:k<40):jZ b s k<=128:=by
 unfold jZ;repeat' split
 all_goals omega
section
variable {A H:Heap}{db:Nat}{wv:Value}{ws:List Nat}{a:Nat}{out:List UInt8}{lo:Nat}
open XMDc
theorem MB{lower:Bool}{f:Nat}(hd:DcM A H db wv ws a out)(hlo:lo<=A.length)(hB:out.length+2*(ws.length-a)<=16400)(hf:ws.length-a<f):Ev cp lo 139 [ptr db,.bool lower] H (fun r H'=>xj A db wv ws r H' (kp ws lower f a (0,false,out))):=by
 refine stG rfl rfl ?_;unfold Kl;simp only[kB,aC];refine aG ?_;generalize hR:kp ws lower f a (0,false,out)=R;refine bK (fun m S H'=>∃(a:Nat) (f:Nat) (s:Nat×Bool×List UInt8),((DcM A H' db wv ws a s.2.2/\s.1<=3)/\(s.2.2.length+2*(ws.length-a)<=16400/\ws.length-a<f/\m=ws.length-a))/\(False\/kp ws lower f a s=R)/\∃(z:Nat->Value),S=[ptr db,.bool lower,z 2,aB s.1,.bool s.2.1,z 5,z 6,z 7,z 8,z 9,z 10,z 11,z 12,z 13,z 14,z 15,z 16,z 17,z 18,z 19,z 20,z 21]) (ws.length-a) ⟨a,f,(0,false,out),⟨⟨hd,Nat.zero_le _⟩,hB,hf,rfl⟩,.inr hR,aJ rfl⟩ ?_;clear hR hf hB hd;rintro m S H1 ⟨a,f,⟨set,up,out⟩,⟨⟨hd,hset⟩,hB,hf,hm⟩,hR,z,rfl⟩;simp only at hd hset hB hR ⊢;obtain⟨g,rfl⟩:∃g,f=g+1:=⟨f-1,byO⟩;replace hm:m<=ws.length-a/\ws.length-a<=m:=byO;have hlA:=hd.ext.1;have hR2:False\/(match kv ws a with | .inl e=>.inl e | .inr none=>.inr (a+1,out) | .inr (some u)=>(match tS lower (set,up,out) u with | .inl e=>.inl e | .inr s'=>kp ws lower g (a+2) s'))=R:=hR;clear hR;(try simp only[aC]);refine cY ?_;refine aA (Lh hd hlo) ?_;intro r H2 hr;clear hd;cases ht:kv ws a with
 | inl e=>
  rw[ht]at hr hR2;obtain⟨rfl,hx,he⟩:=hr;replace hR2:=hR2.resolve_left id;simp only at hR2;subst hR2;have hlx:=hx.1;have hde:decide ((e:Int)=0)=false:=decide_eq_false byO;refine aG ?_;refine aN ?_ ?_<;>intro h
  ·clear h
   refine aG ?_;refine bg ?_;exact⟨rfl,hx.trans (Ext.app _ _),he⟩
  ·exfalso;simp at h;exact he h
 | inr o=>
  cases o with
  | none=>
   rw[ht]at hr hR2;obtain⟨rfl,hd⟩:=hr;replace hR2:=hR2.resolve_left id;simp only at hR2;subst hR2;have hlx:=hd.ext.1;refine aG ?_;refine aN ?_ ?_<;>intro h
   ·clear h
    refine aG ?_;refine bg ?_;exact⟨rfl,hd.mono (Ext.app _ _)⟩
   ·simp at h
  | some u=>
   rw[ht]at hr hR2;obtain⟨rfl,hd,⟨hu1,hu2,hu3⟩,hal⟩:=hr;have hub:∀k,u3 u k<=39:=by
    intro k;unfold u3;split<;>assumption
   simp only at hR2;rw[<-TD]at hR2;have hlx:=hd.ext.1;refine aG ?_;refine aN ?_ ?_<;>intro h
   ·simp at h
   clear h;have hdm:=hd.mono (H':=H2++[some [aB u.1,aB u.2.1,aB u.2.2]]) (Ext.app _ _);change wpS cp lo _ _ _ (H2++[some [aB u.1,aB u.2.1,aB u.2.2]]);have hgv:Heap.get (H2++[some [aB u.1,aB u.2.1,aB u.2.2]]) H2.length=some [aB u.1,aB u.2.1,aB u.2.2]:=aH;generalize H2++[some [aB u.1,aB u.2.1,aB u.2.2]]=H3 at hdm hgv;obtain⟨X,hX,hvi⟩:∃X:List Value,(False\/X=[aB u.1,aB u.2.1,aB u.2.2])/\(False\/∀k,k<3->X[k]?=some (aB (u3 u k))):=⟨_,.inr rfl,.inr (by
    intro k hk;have:k=0\/k=1\/k=2:=byO;rcases this with rfl|rfl|rfl<;>rfl)⟩
   refine aG ?_;clear hgv hu1 hu2 hu3 hd;refine aT (fun k S H'=>∃s:Nat×Bool×List UInt8,((False\/vK lower u (set,up,out) k=.inr s)/\(DcM A H' db wv ws (a+2) s.2.2/\s.1<=3)/\s.2.2.length<=out.length+k)/\∃(z:Nat->Value),S=[ptr db,.bool lower,z 2,aB s.1,.bool s.2.1,z 5,z 6,z 7,z 8,z 9,z 10,z 11,z 12,z 13,z 14,.agg X.toArray,.int .i64 (k:Nat),z 17,z 18,z 19,z 20,z 21]) 3 ⟨(set,up,out),⟨.inr rfl,⟨hdm,hset⟩,Nat.le_refl _⟩,aJ (by rw[hX.resolve_left id];rfl)⟩ ?_ ?_ ?_
   ·rintro k S H' hk ⟨s,h1,z,rfl⟩
    exact⟨decide ((k:Int)<3),by simp(disch:=try exact dO)only[evB,xtr,Nat.reduceAdd,Nat.reduceBEq,Int.reduceToNat, *],by simp;omega⟩
   ·rintro k S H4 hk ⟨⟨st,up',out'⟩,⟨hv,⟨hd4,hst⟩,hol⟩,z,rfl⟩
    simp only at hd4 hst hol ⊢;have hxk:=hvi.resolve_left id k hk;have hvv:=hub k;have hv1:False\/vK lower u (set,up,out) (k+1)=kx lower (st,up',out') (u3 u k):=by
     right;show(match vK lower u (set,up,out) k with | .inl e=>Sum.inl e | .inr s'=>kx lower s' (u3 u k))=_;rw[hv.resolve_left id]
    clear hv hdm hub;generalize u3 u k=x at hxk hvv hv1;obtain⟨ov,b,⟨hg,hne⟩,ho⟩:=hd4.g;have hlx:=hd4.ext.1;have hdA:=hd4.dbA;have hdl:=Heap.get_lt hg;clear ho;have hvS:kx lower (st,up',out') x=if st=0/\x<=2 then .inr (x+1,up',out') else if st=2/\x=30/\up'=false then .inr (0,true,out') else if jZ lower st x=128 then .inl 22 else .inr (0,false,out'++[UInt8.ofNat (if up' then jZ lower st x+128 else jZ lower st x)]):=rfl
    rw[hvS]at hv1;clear hvS;refine aG ?_;by_cases hc1:st=0/\x<=2
    ·obtain⟨c1,c2⟩:=hc1
     have e1:decide ((st:Int)=0)=true:=decide_eq_true byO;have e2:decide ((x:Int)<=2)=true:=decide_eq_true byO;rw[if_pos ⟨c1,c2⟩]at hv1;replace c1:st<=0:=byO;refine aN ?_ ?_<;>intro h
     ·clear h e1 e2
      refine aG ?_;exact⟨(x+1,up',out'),⟨hv1,⟨hd4,by simp only;omega⟩,by simp only;omega⟩,aJ ncM⟩
     ·cases h
    rw[if_neg hc1]at hv1;have e1:(decide ((st:Int)=0)&&decide ((x:Int)<=2))=false:=by
     simp only[Bool.and_eq_false_iff,ai₀];omega
    refine aN ?_ ?_<;>intro h
    ·exfalso;first|(rw[e1]at h;cases h)|cases h
    clear h e1 hc1;(try simp only[aC]);by_cases hc2:st=2/\x=30/\up'=false
    ·obtain⟨c1,c2,rfl⟩:=hc2
     have e1:decide ((st:Int)=2)=true:=decide_eq_true byO;have e2:decide ((x:Int)=30)=true:=decide_eq_true byO;rw[if_pos ⟨c1,c2,rfl⟩]at hv1;replace c1:st<=2/\2<=st:=byO;replace c2:x<=30/\30<=x:=byO;refine aN ?_ ?_<;>intro h
     ·clear h e1 e2
      refine aG ?_;exact⟨(0,true,out'),⟨hv1,⟨hd4,by simp only;omega⟩,by simp only;omega⟩,aJ ncM⟩
     ·cases h
    rw[if_neg hc2]at hv1;have e1:((decide ((st:Int)=2)&&decide ((x:Int)=30))&&!up')=false:=by
     cases up' with
     | true=>simp
     | false=>simp only[Bool.not_false,Bool.and_true,Bool.and_eq_false_iff,ai₀];simp at hc2;omega
    refine aN ?_ ?_<;>intro h
    ·exfalso;first|(rw[e1]at h;cases h)|cases h
    clear h e1 hc2;(try simp only[aC]);refine cY ?_;refine aA (Ri (lo:=lo) (b:=lower) (s:=st) (k:=x) byO byO byO) ?_;rintro r H5 ⟨rfl,hx5⟩;have hcl:=Ho (b:=lower) (s:=st) (k:=x) byO;have hd5:=hd4.mono hx5;have hg5:=hx5.get hg;have hl5:=hx5.1;generalize jZ lower st x=c at hcl hv1 ⊢;clear hd4 hg;by_cases hc:c=128
    ·subst hc
     simp only[if_true]at hv1;have hfin:R=.inl 22:=by
      have h3:=HI (hv1.resolve_left id) (2-k);rw[show k+1+(2-k)=3 by omega]at h3;have h2:=hR2.resolve_left id;rw[h3]at h2;exact h2.symm
     subst hfin;clear hv1 hR2;refine aG ?_;refine aN ?_ ?_<;>intro h
     ·refine aG ?_
      refine bg ?_;exact⟨rfl,hd5.ext,byO⟩
     ·simp at h
    rw[if_neg hc]at hv1;have hb:(c != 128)=true:=by simpa using hc
    simp only[if_neg hc,hb];clear hb;replace hc:c<=127:=byO;refine aG ?_;refine aN ?_ ?_<;>intro h
    ·simp at h
    clear h;(try simp only[aC]);refine fC (fun S' H'=>H5=H'/\∃(z:Nat->Value),S'=[ptr db,.bool lower,z 2,aB st,.bool up',z 5,z 6,z 7,z 8,.int .u8 ((if up' then c+128 else c:Nat):Int),z 10,z 11,z 12,z 13,z 14,.agg X.toArray,.int .i64 (k:Nat),z 17,z 18,z 19,z 20,z 21]) ?_ ?_
    ·cases up' with
     | true=>
      refine aN ?_ ?_<;>intro h
      ·clear h
       refine aG ?_;exact⟨by trivial,aJ ncM⟩
      ·cases h
     | false=>
      refine aN ?_ ?_<;>intro h
      ·cases h
      ·clear h
       (try simp only[aC]);exact⟨by trivial,aJ ncM⟩
    rintro S' H5' ⟨rfl,z,rfl⟩;obtain⟨y,hy,hyl⟩:∃y,(False\/(if up' then c+128 else c:Nat)=y)/\y<=255:=⟨_,.inr rfl,by split<;>omega⟩;rw[hy.resolve_left id]at hv1 ⊢;refine aG ?_;rw[<-jI (n:=y) byO];refine cY ?_;refine rF (n:=1) (l:=[UInt8.ofNat y]) hd5 hg5 hlo rfl byO byO ?_;intro ad m H6 hg6 hl6 hd6;refine aG ?_;exact⟨(0,false,out'++[UInt8.ofNat y]),⟨hv1,⟨hd6,Nat.zero_le _⟩,by simp;omega⟩,aJ ncM⟩
   ·rintro S H4 ⟨s,⟨hv,⟨hd4,hst⟩,hol⟩,z,rfl⟩
    have h2:=hR2.resolve_left id;rw[hv.resolve_left id]at h2;simp only at h2;(try simp only[aC]);exact⟨ws.length-(a+2),byO,a+2,g,s,⟨⟨hd4,hst⟩,byO,byO,rfl⟩,.inr h2,aJ rfl⟩
end
def xK(u:Nat×Nat×Nat)(k:Nat):List UInt8:=(List.range k).map fun i=>UInt8.ofNat (kj (u3 u i))
theorem KI(u:Nat×Nat×Nat)(k:Nat):xK u (k+1)=xK u k++[UInt8.ofNat (kj (u3 u k))]:=by
 unfold xK;rw[List.range_succ,List.map_append];rfl
theorem TH(u:Nat×Nat×Nat):xK u 3=[UInt8.ofNat (kj u.1),UInt8.ofNat (kj u.2.1),UInt8.ofNat (kj u.2.2)]:=rfl
theorem HV(u:Nat×Nat×Nat)(k:Nat):(xK u k).length=k:=by simp[xK]
theorem KK{k:Nat}(hk:k<40):kj k<=127:=by
 unfold kj;repeat' split
 all_goals omega
section
variable {A H:Heap}{db:Nat}{wv:Value}{ws:List Nat}{a:Nat}{out:List UInt8}{lo:Nat}
open XMDc
theorem RZ{f:Nat}(hd:DcM A H db wv ws a out)(hlo:lo<=A.length)(hB:out.length+2*(ws.length-a)<=16400)(hf:ws.length-a<f):Ev cp lo 141 [ptr db] H (fun r H'=>xj A db wv ws r H' (lq ws f a out)):=by
 refine stG rfl rfl ?_;unfold Kn;simp only[kB,aC];refine aG ?_;generalize hR:lq ws f a out=R;refine bK (fun m S H'=>∃(a:Nat) (f:Nat) (out:List UInt8),((DcM A H' db wv ws a out)/\(out.length+2*(ws.length-a)<=16400/\ws.length-a<f/\m=ws.length-a))/\(False\/lq ws f a out=R)/\∃(z:Nat->Value),S=[ptr db,z 1,z 2,z 3,z 4,z 5,z 6,z 7,z 8,z 9,z 10,z 11,z 12,z 13,z 14,z 15,z 16]) (ws.length-a) ⟨a,f,out,⟨hd,hB,hf,rfl⟩,.inr hR,aJ rfl⟩ ?_;clear hR hf hB hd;rintro m S H1 ⟨a,f,out,⟨hd,hB,hf,hm⟩,hR,z,rfl⟩;obtain⟨g,rfl⟩:∃g,f=g+1:=⟨f-1,byO⟩;replace hm:m<=ws.length-a/\ws.length-a<=m:=byO;have hlA:=hd.ext.1;have hR2:False\/(match kv ws a with | .inl e=>.inl e | .inr none=>.inr (a+1,out) | .inr (some u)=>lq ws g (a+2) (out++[UInt8.ofNat (kj u.1),UInt8.ofNat (kj u.2.1),UInt8.ofNat (kj u.2.2)]))=R:=hR;clear hR;(try simp only[aC]);refine cY ?_;refine aA (Lh hd hlo) ?_;intro r H2 hr;clear hd;cases ht:kv ws a with
 | inl e=>
  rw[ht]at hr hR2;obtain⟨rfl,hx,he⟩:=hr;replace hR2:=hR2.resolve_left id;simp only at hR2;subst hR2;have hlx:=hx.1;have hde:decide ((e:Int)=0)=false:=decide_eq_false byO;refine aG ?_;refine aN ?_ ?_<;>intro h
  ·clear h
   refine aG ?_;refine bg ?_;exact⟨rfl,hx.trans (Ext.app _ _),he⟩
  ·exfalso;simp at h;exact he h
 | inr o=>
  cases o with
  | none=>
   rw[ht]at hr hR2;obtain⟨rfl,hd⟩:=hr;replace hR2:=hR2.resolve_left id;simp only at hR2;subst hR2;have hlx:=hd.ext.1;refine aG ?_;refine aN ?_ ?_<;>intro h
   ·clear h
    refine aG ?_;refine bg ?_;exact⟨rfl,hd.mono (Ext.app _ _)⟩
   ·simp at h
  | some u=>
   rw[ht]at hr hR2;obtain⟨rfl,hd,⟨hu1,hu2,hu3⟩,hal⟩:=hr;have hub:∀k,u3 u k<=39:=by
    intro k;unfold u3;split<;>assumption
   simp only at hR2;rw[<-TH]at hR2;have hlx:=hd.ext.1;refine aG ?_;refine aN ?_ ?_<;>intro h
   ·simp at h
   clear h;have hdm:=hd.mono (H':=H2++[some [aB u.1,aB u.2.1,aB u.2.2]]) (Ext.app _ _);change wpS cp lo _ _ _ (H2++[some [aB u.1,aB u.2.1,aB u.2.2]]);have hgv:Heap.get (H2++[some [aB u.1,aB u.2.1,aB u.2.2]]) H2.length=some [aB u.1,aB u.2.1,aB u.2.2]:=aH;generalize H2++[some [aB u.1,aB u.2.1,aB u.2.2]]=H3 at hdm hgv;obtain⟨X,hX,hvi⟩:∃X:List Value,(False\/X=[aB u.1,aB u.2.1,aB u.2.2])/\(False\/∀k,k<3->X[k]?=some (aB (u3 u k))):=⟨_,.inr rfl,.inr (by
    intro k hk;have:k=0\/k=1\/k=2:=byO;rcases this with rfl|rfl|rfl<;>rfl)⟩
   refine aG ?_;clear hgv hu1 hu2 hu3 hd;refine aT (fun k S H'=>(DcM A H' db wv ws (a+2) (out++xK u k))/\∃(z:Nat->Value),S=[ptr db,z 1,z 2,z 3,z 4,z 5,z 6,z 7,z 8,z 9,.agg X.toArray,.int .i64 (k:Nat),z 12,z 13,z 14,z 15,z 16]) 3 ⟨by simpa[xK]using hdm,aJ (by rw[hX.resolve_left id];rfl)⟩ ?_ ?_ ?_
   ·rintro k S H' hk ⟨h1,z,rfl⟩
    exact⟨decide ((k:Int)<3),by simp(disch:=try exact dO)only[evB,xtr,Nat.reduceAdd,Nat.reduceBEq,Int.reduceToNat, *],by simp;omega⟩
   ·rintro k S H4 hk ⟨hd4,z,rfl⟩
    have hxk:=hvi.resolve_left id k hk;have hvv:=hub k;have hkl:=HV u k;rw[KI,<-ba₀];generalize u3 u k=x at hxk hvv ⊢;clear hdm hub;have hol:(out++xK u k).length<=out.length+3:=by simp[hkl];omega
    generalize out++xK u k=out' at hd4 hol ⊢;obtain⟨ov,b,⟨hg,hne⟩,ho⟩:=hd4.g;have hlx:=hd4.ext.1;have hdA:=hd4.dbA;have hdl:=Heap.get_lt hg;clear ho hkl;refine aG ?_;refine cY ?_;refine aa (TW (k:=x) byO (Nat.le_refl _)) ?_;rintro r H5 ⟨rfl,hx5⟩;have hcl:=KK (k:=x) byO;have hd5:=hd4.mono hx5;have hg5:=hx5.get hg;generalize kj x=y at hcl ⊢;refine aG ?_;rw[<-jI (n:=y) byO];refine cY ?_;refine rF (n:=1) (l:=[UInt8.ofNat y]) hd5 hg5 hlo rfl byO byO ?_;intro ad m H6 hg6 hl6 hd6;refine aG ?_;exact⟨hd6,aJ ncM⟩
   ·rintro S H4 ⟨hd4,z,rfl⟩
    have hl3:=HV u 3;generalize xK u 3=L at hd4 hl3 hR2;(try simp only[aC]);exact⟨ws.length-(a+2),byO,a+2,g,out++L,⟨hd4,by simp;omega,byO,rfl⟩,hR2,aJ rfl⟩
theorem OU(hd:DcM A H db wv ws a out)(hlo:lo<=A.length):Ev cp lo 184 [ptr db] H (fun r H'=>(ws.length<=a/\r=.tuple #[.int .i64 0,.bool false]/\Ext A H')\/(a<ws.length/\r=.tuple #[aB (unm ws a),.bool true]/\DcM A H' db wv ws (a+1) out)):=by
 obtain⟨ov,b,⟨hg,hne⟩,ho⟩:=hd.g;have hlen:=hd.len;have hle:=hd.le;have hdA:=hd.dbA;have hdl:=Heap.get_lt hg;obtain⟨aw,cw,ew⟩:=hd.w.len;subst ew;have hlA:=hd.ext.1;have hx0:=hd.ext;refine stG rfl rfl ?_;unfold LU;simp only[kB,aC];refine aG ?_;by_cases ha:ws.length<=a
 ·have hdd:decide ((a:Int)>=(ws.length:Nat))=true:=decide_eq_true byO
  have hdd2:decide ((ws.length:Int)<=(a:Nat))=true:=decide_eq_true byO;refine aN ?_ ?_<;>intro h
  ·refine aG ?_
   refine bg ?_;exact .inl ⟨ha,rfl,hx0⟩
  ·simp at h
 have hdd:decide ((a:Int)>=(ws.length:Nat))=false:=decide_eq_false byO;have hdd2:decide ((ws.length:Int)<=(a:Nat))=false:=decide_eq_false byO;obtain⟨b1,o1,x1,i1,g1,e1⟩:=hd.at (k:=a) byO;have hby:=hd.byt a;have hun:unm ws a=(wd ws a+256-msk a)%256:=rfl;rw[hun];clear hun;obtain⟨x,hx⟩:∃x,False\/wd ws a=x:=⟨_,.inr rfl⟩;rw[hx.resolve_left id]at e1 ⊢;replace hby:x<=255:=by rw[<-hx.resolve_left id];exact hby
 have hmv:=hd.move (a':=a+1) hg byO;have hms:msk a<=255:=by unfold msk;omega
 refine aN ?_ ?_<;>intro h
 ·simp at h
 clear h hdd hdd2;(try simp only[aC]);refine cY ?_;refine aa (Fg (k:=a) byO) ?_;rintro r H1 ⟨rfl,rfl⟩;generalize msk a=ms at hms ⊢;have em:((x:Int)-(ms:Nat)+256).tmod 256=(((x+256-ms)%256:Nat):Int):=by rw[Int.tmod_eq_emod_of_nonneg byO];omega
 have hy:(x+256-ms)%256<=255:=byO;generalize (x+256-ms)%256=y at em hy ⊢;refine aG ?_;refine bg ?_;exact .inr ⟨byO,rfl,hmv⟩
end
section
variable {A H:Heap}{db:Nat}{wv:Value}{ws:List Nat}{a:Nat}{out:List UInt8}{lo:Nat}
theorem AP(ws:List Nat)(a:Nat):unm ws a<256:=by unfold unm;omega
open XMDc
theorem Pf(hd:DcM A H db wv ws a out)(hlo:lo<=A.length)(hB:out.length+2*(ws.length-a)<=16400):Ev cp lo 140 [ptr db] H (fun r H'=>xj A db wv ws r H' (wi ws a out)):=by
 have hlen:=hd.len;refine stG rfl rfl ?_;unfold Km;simp only[kB,aC];refine aG ?_;refine cY ?_;refine aA (OU hd hlo) ?_;intro r H1 hr;unfold wi;rcases hr with ⟨ha,rfl,hx⟩|⟨ha,rfl,hd1⟩
 ·rw[if_pos ha]
  refine aG ?_;refine aN ?_ ?_<;>intro h
  ·refine aG ?_
   refine bg ?_;exact⟨rfl,hx,byO⟩
  ·simp at h
 rw[if_neg byO];have hnl:=AP ws a;generalize unm ws a=n at hnl ⊢;refine aG ?_;refine aN ?_ ?_<;>intro h
 ·simp at h
 clear h;(try simp only[aC]);by_cases h0:n=0
 ·have hdd:decide ((n:Int)=0)=true:=decide_eq_true byO
  rw[if_pos h0];replace h0:n<=0:=byO;refine aN ?_ ?_<;>intro h
  ·refine aG ?_
   refine bg ?_;exact⟨rfl,hd1.ext,byO⟩
  ·simp at h
 have hdd:decide ((n:Int)=0)=false:=decide_eq_false byO;rw[if_neg h0];refine aN ?_ ?_<;>intro h
 ·simp at h
 clear h hdd;(try simp only[aC]);generalize hR:(if n<250 then qT ws n (a+1) out else if ws.length<=a+1 then .inl 10 else if 250<=unm ws (a+1) then .inl 22 else qT ws (250*(n-249)+unm ws (a+1)) (a+2) out)=R;refine fC (fun S' H'=>∃(q a':Nat),((DcM A H' db wv ws a' out/\a<=a')/\q<=2000)/\(False\/qT ws q a' out=R)/\∃(z:Nat->Value),S'=[ptr db,z 1,.int .i64 (q:Nat),z 3,z 4,z 5,z 6,z 7,z 8,z 9,z 10,z 11,z 12,z 13,z 14,z 15,z 16]) ?_ ?_
 ·by_cases h250:n<250
  ·have hdd:decide ((n:Int)>=250)=false:=decide_eq_false byO
   rw[if_pos h250]at hR;replace hR:False\/_:=.inr hR;refine aN ?_ ?_<;>intro h
   ·simp at h
   ·clear h hdd
    (try simp only[aC]);exact⟨n,a+1,⟨⟨hd1,byO⟩,byO⟩,hR,aJ rfl⟩
  ·have hdd:decide ((n:Int)>=250)=true:=decide_eq_true byO
   rw[if_neg h250]at hR;replace hR:False\/_:=.inr hR;refine aN ?_ ?_<;>intro h
   ·clear h hdd
    (try simp only[aC]);refine cY ?_;refine aA (OU hd1 hlo) ?_;intro r H2 hr;rcases hr with ⟨ha2,rfl,hx⟩|⟨ha2,rfl,hd2⟩
    ·have h2:=hR.resolve_left id
     rw[if_pos ha2]at h2;subst h2;refine aG ?_;refine aN ?_ ?_<;>intro h
     ·refine aG ?_
      refine bg ?_;exact⟨rfl,hx,byO⟩
     ·simp at h
    have h2:=hR.resolve_left id;rw[if_neg byO]at h2;have hml:=AP ws (a+1);generalize unm ws (a+1)=m at hml h2 ⊢;clear hR;replace h2:False\/_:=.inr h2;refine aG ?_;refine aN ?_ ?_<;>intro h
    ·simp at h
    clear h;(try simp only[aC]);by_cases hm:250<=m
    ·have hdd:decide ((m:Int)>=250)=true:=decide_eq_true byO
     have h3:=h2.resolve_left id;rw[if_pos hm]at h3;subst h3;refine aN ?_ ?_<;>intro h
     ·refine aG ?_
      refine bg ?_;exact⟨rfl,hd2.ext,byO⟩
     ·simp at h
    have hdd:decide ((m:Int)>=250)=false:=decide_eq_false byO;have h3:=h2.resolve_left id;rw[if_neg hm]at h3;replace h3:False\/_:=.inr h3;clear h2;have e1:250*((n:Int)-249)+(m:Nat)=((250*(n-249)+m:Nat):Int):=byO;have e2:250*(n-249)+m<=2000:=byO;generalize 250*(n-249)+m=q at e1 e2 h3;refine aN ?_ ?_<;>intro h
    ·simp at h
    clear h hdd;refine aG ?_;exact⟨q,a+2,⟨⟨hd2,byO⟩,e2⟩,h3,aJ rfl⟩
   ·simp at h
 ·rintro S' H2 ⟨q,a',⟨⟨hd2,haa⟩,hq⟩,hR2,z,rfl⟩
  clear hR hd1 hd;refine aG ?_;refine aT (fun k S H'=>∃(c:Nat) (o:List UInt8),((DcM A H' db wv ws c o/\(o.length+2*(ws.length-c)<=16400)))/\(False\/qT ws (q-k) c o=R)/\∃(z:Nat->Value),S=[ptr db,z 1,z 2,z 3,z 4,z 5,z 6,z 7,z 8,z 9,.int .i64 (q:Nat),.int .i64 (k:Nat),z 12,z 13,z 14,z 15,z 16]) q ⟨a',out,⟨hd2,byO⟩,hR2,aJ rfl⟩ ?_ ?_ ?_
  ·rintro k S H' hk ⟨c,o,h1,h2,z,rfl⟩
   exact⟨decide ((k:Int)<(q:Nat)),by simp(disch:=try exact dO)only[evB,xtr,Nat.reduceAdd,Nat.reduceBEq,Int.reduceToNat, *],by simp⟩
  ·rintro k S H4 hk ⟨c,o,⟨hd4,hB4⟩,hR4,z,rfl⟩
   clear hd2 hR2;obtain⟨j,hj⟩:∃j,q-k=j+1:=⟨q-k-1,byO⟩;have hj2:q-(k+1)=j:=byO;rw[hj]at hR4;rw[hj2];have hR5:False\/(if ws.length<=c then .inl 10 else qT ws j (c+1) (o++[UInt8.ofNat (unm ws c)]))=R:=hR4;clear hR4 hj hj2;(try simp only[aC]);refine cY ?_;refine aA (OU hd4 hlo) ?_;intro r H5 hr;rcases hr with ⟨ha2,rfl,hx⟩|⟨ha2,rfl,hd5⟩
   ·have h2:=hR5.resolve_left id
    rw[if_pos ha2]at h2;subst h2;refine aG ?_;refine aN ?_ ?_<;>intro h
    ·refine aG ?_
     refine bg ?_;exact⟨rfl,hx,byO⟩
    ·simp at h
   have h2:=hR5.resolve_left id;rw[if_neg byO]at h2;have hml:=AP ws c;generalize unm ws c=m at hml h2 ⊢;clear hR5 hd4;replace h2:False\/_:=.inr h2;obtain⟨ov,b,⟨hg,hne⟩,ho⟩:=hd5.g;have hlx:=hd5.ext.1;have hdA:=hd5.dbA;have hdl:=Heap.get_lt hg;clear ho;refine aG ?_;refine aN ?_ ?_<;>intro h
   ·simp at h
   clear h;refine aG ?_;rw[<-jI (n:=m) byO];refine cY ?_;refine rF (n:=1) (l:=[UInt8.ofNat m]) hd5 hg hlo rfl byO byO ?_;intro ad m' H6 hg6 hl6 hd6;refine aG ?_;exact⟨c+1,o++[UInt8.ofNat m],⟨hd6,by simp;omega⟩,h2,aJ ncM⟩
  ·rintro S H4 ⟨c,o,⟨hd4,hB4⟩,hR4,z,rfl⟩
   rw[Nat.sub_self]at hR4;have h2:Sum.inr (c,o)=R:=hR4.resolve_left id;subst h2;refine aG ?_;refine bg ?_;exact⟨rfl,hd4⟩
end
theorem Q8{g c:Nat}(hc:c<256):256*g ||| c=256*g+c:=(Nat.two_pow_add_eq_or_of_lt (i:=8) hc g).symm
section
variable {A H:Heap}{db:Nat}{wv:Value}{ws:List Nat}{a:Nat}{out:List UInt8}{lo:Nat}
open XMDc
theorem QA{f:Nat}(hd:DcM A H db wv ws a out)(hlo:lo<=A.length)(hB:out.length+2*(ws.length-a)<=16400)(hf:8*ws.length+6<=6*f):Ev cp lo 142 [ptr db] H (fun r H'=>xj A db wv ws r H' (lJ ws a f 0 out)):=by
 have hlen:=hd.len;have hle:=hd.le;have hbyt:=hd.byt;refine stG rfl rfl ?_;unfold Ko;simp only[kB,aC];refine aG ?_;generalize hR:lJ ws a f 0 out=R;refine bK (fun m S H'=>∃(bit f:Nat) (o:List UInt8),((DcM A H' db wv ws a o/\6*o.length<=6*out.length+bit)/\(bit%2=0/\bit<8*ws.length+6/\8*ws.length+6<=6*f+bit/\m=8*ws.length+6-bit))/\(False\/lJ ws a f bit o=R)/\∃(z:Nat->Value),S=[ptr db,z 1,.int .i64 (bit:Nat),z 3,z 4,z 5,z 6,z 7,z 8,z 9,z 10,z 11]) (8*ws.length+6) ⟨0,f,out,⟨⟨hd,byO⟩,byO,byO,byO,byO⟩,.inr hR,aJ rfl⟩ ?_;clear hR hf hd;rintro m S H1 ⟨bit,f,o,⟨⟨hd,ho6⟩,hb2,hbl,hf,hm⟩,hR,z,rfl⟩;obtain⟨g,rfl⟩:∃g,f=g+1:=⟨f-1,byO⟩;replace hm:m<=8*ws.length+6-bit/\8*ws.length+6-bit<=m:=byO;have hlA:=hd.ext.1;have hdA:=hd.dbA;have hx0:=hd.ext;obtain⟨aw,cw,ew⟩:=hd.w.len;subst ew;obtain⟨ov,b,⟨hg,hne⟩,hoo⟩:=hd.g;have hdl:=Heap.get_lt hg;clear hoo;have hR2:False\/(if ws.length<=a+(bit+5)/8 then .inl 10 else if k7 ws a bit=31 then(if wd ws (a+(bit+5)/8)%2^((8-(bit+6)%8)%8)≠0 then .inl 22 else .inr (a+(bit+5)/8+1,o)) else lJ ws a g (bit+6) (o++[UInt8.ofNat (if k7 ws a bit<32 then k7 ws a bit+64 else k7 ws a bit)]))=R:=hR;clear hR;have q1:(bit:Int).tdiv 8=((bit/8:Nat):Int):=by rw[Int.tdiv_eq_ediv_of_nonneg byO];omega
 have q2:((bit:Int)+5).tdiv 8=(((bit+5)/8:Nat):Int):=by rw[Int.tdiv_eq_ediv_of_nonneg byO];omega
 have q3:(bit:Int).tmod 8=((bit%8:Nat):Int):=by rw[Int.tmod_eq_emod_of_nonneg byO];omega
 have q4:((bit:Int)+6).tmod 8=(((bit+6)%8:Nat):Int):=by rw[Int.tmod_eq_emod_of_nonneg byO];omega
 have hs6:k7 ws a bit=(256*wd ws (a+bit/8)+if bit/8<(bit+5)/8 then wd ws (a+(bit+5)/8) else 0)/2^(10-bit%8)%64:=rfl;have hpos:bit/8<=(bit+5)/8/\8*((bit+5)/8)<=bit+5:=byO;have ht:bit%8<8/\(bit%8)%2=0:=byO;have h68:(bit+6)%8<=7:=byO;have hinj:bit+5<8*((bit+5)/8)+8:=byO;generalize hi0:bit/8=i0 at q1 hs6 hpos;generalize hi1:(bit+5)/8=i1 at q2 hs6 hpos hR2 hinj;generalize hit:bit%8=t at q3 hs6 ht;generalize hir:(bit+6)%8=r6 at q4 h68 hR2;clear hi0 hi1 hit hir;refine aG ?_;by_cases hae:ws.length<=a+i1
 ·have hdd:decide ((a:Int)+(i1:Nat)>=(ws.length:Nat))=true:=decide_eq_true byO
  have hdd2:decide ((ws.length:Int)<=(a:Nat)+(i1:Nat))=true:=decide_eq_true byO;have h2:=hR2.resolve_left id;rw[if_pos hae]at h2;subst h2;refine aN ?_ ?_<;>intro h
  ·refine aG ?_
   refine bg ?_;exact⟨rfl,hx0,byO⟩
  ·simp at h
 have hdd:decide ((a:Int)+(i1:Nat)>=(ws.length:Nat))=false:=decide_eq_false byO;have hdd2:decide ((ws.length:Int)<=(a:Nat)+(i1:Nat))=false:=decide_eq_false byO;have h2:=hR2.resolve_left id;rw[if_neg hae]at h2;replace h2:False\/_:=.inr h2;clear hR2;refine aN ?_ ?_<;>intro h
 ·simp at h
 clear h hdd hdd2;obtain⟨b1,o1,x1,ia,g1,e1⟩:=hd.at (k:=a+i0) byO;obtain⟨b2,o2,x2,ib,g2,e2⟩:=hd.at (k:=a+i1) byO;have hy1:=hbyt (a+i0);have hy2:=hbyt (a+i1);generalize hw1:wd ws (a+i0)=w1 at e1 hs6;generalize hw2:wd ws (a+i1)=w2 at e2 hs6 h2;replace hy1:w1<=255:=by rw[<-hw1];exact hy1
 replace hy2:w2<=255:=by rw[<-hw2];exact hy2
 clear hw1 hw2;simp only[ap₀]at ia ib;have hsh:IntKind.i64.wrap ((w1:Int)*2^(min 8 IntKind.i64.bits))=((256*w1:Nat):Int):=by
  have e:min 8 IntKind.i64.bits=8:=by decide
  rw[e,show(w1:Int)*2^8=((256*w1:Nat):Int) by omega];exact ua byO
 obtain⟨pr,hpr,hprl⟩:∃pr,(False\/256*w1+(if i0<i1 then w2 else 0)=pr)/\pr<=65535:=⟨_,.inr rfl,by split<;>omega⟩;rw[hpr.resolve_left id]at hs6;refine aG ?_;refine fC (fun S' H'=>H1=H'/\∃(z:Nat->Value),S'=[ptr db,z 1,.int .i64 (bit:Nat),z 3,.int .i64 ((a:Int)+(i1:Nat)),aB pr,z 6,z 7,z 8,z 9,z 10,z 11]) ?_ ?_
 ·by_cases hii:i0<i1
  ·have hdd:decide ((a:Int)+(i1:Nat)>(a:Nat)+(i0:Nat))=true:=decide_eq_true byO
   have hdd2:decide ((a:Int)+(i0:Nat)<(a:Nat)+(i1:Nat))=true:=decide_eq_true byO;have h3:=hpr.resolve_left id;rw[if_pos hii]at h3;subst h3;have hor:IntKind.i64.wrap ((BitVec.ofInt IntKind.i64.bits ((256*w1:Nat):Int) ||| BitVec.ofInt IntKind.i64.bits ((w2:Nat):Int)).toNat:Int)=((256*w1+w2:Nat):Int):=by rw[zo byO byO,Q8 byO]
   refine aN ?_ ?_<;>intro h
   ·clear h hdd hdd2
    refine aG ?_;exact⟨by trivial,aJ rfl⟩
   ·simp at h
  ·have hdd:decide ((a:Int)+(i1:Nat)>(a:Nat)+(i0:Nat))=false:=decide_eq_false byO
   have hdd2:decide ((a:Int)+(i0:Nat)<(a:Nat)+(i1:Nat))=false:=decide_eq_false byO;have h3:=hpr.resolve_left id;rw[if_neg hii,Nat.add_zero]at h3;subst h3;refine aN ?_ ?_<;>intro h
   ·simp at h
   ·clear h hdd hdd2
    (try simp only[aC]);exact⟨by trivial,aJ rfl⟩
 rintro S' H2 ⟨rfl,z,rfl⟩;have hf10:(10:Int)-(t:Nat)=((10-t:Nat):Int):=byO;have hfd:=Ej (a:=pr) (b:=2^(10-t)) (10-t) rfl byO;simp only[Int.toNat_natCast]at hfd;obtain⟨s6,hs6e⟩:∃s6,pr/2^(10-t)=s6:=⟨_,rfl⟩;have hs6l:s6<=65535:=by rw[<-hs6e];exact Nat.le_trans (Nat.div_le_self _ _) hprl
 rw[hs6e]at hfd hs6;have hand:IntKind.i64.wrap ((BitVec.ofInt IntKind.i64.bits ((s6:Nat):Int) &&& BitVec.ofInt IntKind.i64.bits ((63:Nat):Int)).toNat:Int)=((s6%64:Nat):Int):=by rw[ng byO byO,KQ]
 simp only[Int.cast_ofNat_Int]at hand;clear hs6e hsh hpr;rw[hs6]at h2;have hvl:s6%64<=63:=byO;generalize s6%64=x at hand h2 hvl;refine aG ?_;by_cases hx31:x=31
 ·have hdd:decide ((x:Int)=31)=true:=decide_eq_true byO
  have h3:=h2.resolve_left id;rw[if_pos hx31]at h3;replace h3:False\/_:=.inr h3;replace hx31:x<=31/\31<=x:=byO;clear h2 hand hfd;have e8:(8:Int)-(r6:Nat)=((8-r6:Nat):Int):=byO;have q5:((8-r6:Nat):Int).tmod 8=(((8-r6)%8:Nat):Int):=by rw[Int.tmod_eq_emod_of_nonneg byO];omega
  have hrs:(8-r6)%8<=7:=byO;generalize (8-r6)%8=rs at q5 hrs h3;have hp1:1<=2^rs:=Nat.one_le_two_pow;have hp2:2^rs<=128:=Nat.le_trans (Nat.pow_le_pow_right (by decide) hrs) (by decide);have hs1:IntKind.i64.wrap (1*2^(min rs IntKind.i64.bits))=((2^rs:Nat):Int):=by
   have e:min rs IntKind.i64.bits=rs:=by show min rs 64=rs;omega
   rw[e,show(1:Int)*2^rs=((2^rs:Nat):Int) by simp];exact ua byO
  have hs1':IntKind.i64.wrap (2^(min rs IntKind.i64.bits))=((2^rs:Nat):Int):=by rw[<-hs1,Int.one_mul]
  have hmsk:w2 &&& (2^rs-1)=w2%2^rs:=Nat.and_two_pow_sub_one_eq_mod w2 rs;have hand2:IntKind.i64.wrap ((BitVec.ofInt IntKind.i64.bits ((w2:Nat):Int) &&& BitVec.ofInt IntKind.i64.bits (((2^rs-1:Nat):Nat):Int)).toNat:Int)=((w2%2^rs:Nat):Int):=by rw[ng byO byO,hmsk]
  have epw:((2^rs:Nat):Int)-1=((2^rs-1:Nat):Int):=byO;obtain⟨pw,hpw⟩:∃pw,2^rs=pw:=⟨_,rfl⟩;rw[hpw]at hs1 hs1' hand2 epw hp1 hp2 h3;obtain⟨z2,hz2⟩:∃z2,w2%pw=z2:=⟨_,rfl⟩;rw[hz2]at hand2 h3;clear hpw hz2 hmsk;refine aN ?_ ?_<;>intro h
  ·clear h hdd
   refine aG ?_;by_cases hz:z2=0
   ·have hdd:decide ((z2:Int)=0)=true:=decide_eq_true byO
    have h4:=h3.resolve_left id;rw[if_neg byO]at h4;subst h4;clear h3;have hmv:=hd.move (a':=a+i1+1) hg byO;replace hz:z2<=0:=byO;refine aN ?_ ?_<;>intro h
    ·exfalso;first|(simp at h;omega)|(simp at h;done)
    clear h hdd;refine aG ?_;refine bg ?_;exact⟨rfl,hmv⟩
   ·have hdd:decide ((z2:Int)=0)=false:=decide_eq_false byO
    have h4:=h3.resolve_left id;rw[if_pos hz]at h4;subst h4;clear h3;refine aN ?_ ?_<;>intro h
    ·refine aG ?_
     refine bg ?_;exact⟨rfl,hx0,byO⟩
    ·exfalso;simp at h;omega
  ·simp at h
 ·have hdd:decide ((x:Int)=31)=false:=decide_eq_false byO
  have h3:=h2.resolve_left id;rw[if_neg hx31]at h3;obtain⟨y,hy,hyl⟩:∃y,(False\/(if x<32 then x+64 else x)=y)/\y<=255:=⟨_,.inr rfl,by split<;>omega⟩;rw[hy.resolve_left id]at h3;replace h3:False\/_:=.inr h3;clear h2 hand hfd;refine aN ?_ ?_<;>intro h
  ·simp at h
  clear h hdd;(try simp only[aC]);refine fC (fun S' H'=>H1=H'/\∃(z:Nat->Value),S'=[ptr db,z 1,.int .i64 (bit:Nat),z 3,z 4,z 5,aB y,z 7,z 8,z 9,z 10,z 11]) ?_ ?_
  ·by_cases h32:x<32
   ·have hdd:decide ((x:Int)<32)=true:=decide_eq_true byO
    have h4:=hy.resolve_left id;rw[if_pos h32]at h4;subst h4;refine aN ?_ ?_<;>intro h
    ·clear h hdd
     refine aG ?_;exact⟨by trivial,aJ rfl⟩
    ·simp at h
   ·have hdd:decide ((x:Int)<32)=false:=decide_eq_false byO
    have h4:=hy.resolve_left id;rw[if_neg h32]at h4;subst h4;refine aN ?_ ?_<;>intro h
    ·simp at h
    ·clear h hdd
     (try simp only[aC]);exact⟨by trivial,aJ rfl⟩
  rintro S' H2 ⟨rfl,z,rfl⟩;refine aG ?_;rw[<-jI (n:=y) byO];refine cY ?_;refine rF (n:=1) (l:=[UInt8.ofNat y]) hd hg hlo rfl byO byO ?_;intro ad m' H6 hg6 hl6 hd6;refine aG ?_;exact⟨8*ws.length+6-(bit+6),byO,bit+6,g,o++[UInt8.ofNat y],⟨⟨hd6,by simp;omega⟩,byO,byO,byO,rfl⟩,h3,aJ ncM⟩
end
theorem u6{ws:List Nat}{a:Nat}(h:kv ws a=.inr none):a<ws.length/\wd ws a=254:=by
 unfold kv at h;split at h
 ·cases h
 ·split at h
  ·exact⟨byO,by assumption⟩
  ·split at h
   ·cases h
   ·split at h<;>cases h
theorem u7{ws:List Nat}{a:Nat}{u:Nat×Nat×Nat}(h:kv ws a=.inr (some u)):a+1<ws.length/\wd ws a≠254/\1<=256*wd ws a+wd ws (a+1)/\256*wd ws a+wd ws (a+1)<=64000/\u=((256*wd ws a+wd ws (a+1)-1)/1600,(256*wd ws a+wd ws (a+1)-1)/40%40,(256*wd ws a+wd ws (a+1)-1)%40):=by
 unfold kv at h;split at h
 ·cases h
 ·split at h
  ·cases h
  ·split at h
   ·cases h
   ·split at h
    ·cases h
    ·refine⟨byO,by assumption,byO,byO,?_⟩
     cases h;rfl
theorem tB{lower:Bool}{s t:Nat×Bool×List UInt8}{v:Nat}(h:kx lower s v=.inr t):t.2.2.length<=s.2.2.length+1:=by
 unfold kx at h;split at h
 ·cases h;exact Nat.le_succ _
 ·split at h
  ·cases h;exact Nat.le_succ _
  ·split at h
   ·cases h
   ·cases h;simp
theorem DN{lower:Bool}{s t:Nat×Bool×List UInt8}{u:Nat×Nat×Nat}(h:tS lower s u=.inr t):∃s1 s2,kx lower s u.1=.inr s1/\kx lower s1 u.2.1=.inr s2/\kx lower s2 u.2.2=.inr t:=by
 unfold tS at h;cases h1:kx lower s u.1 with
 | inl e=>rw[h1]at h;cases h
 | inr s1=>
  rw[h1]at h;simp only at h;cases h2:kx lower s1 u.2.1 with
  | inl e=>rw[h2]at h;cases h
  | inr s2=>rw[h2]at h;exact⟨s1,s2,rfl,h2,h⟩
theorem HJ{lower:Bool}{s t:Nat×Bool×List UInt8}{u:Nat×Nat×Nat}(h:tS lower s u=.inr t):t.2.2.length<=s.2.2.length+3:=by
 obtain⟨s1,s2,h1,h2,h3⟩:=DN h;have:=tB h1;have:=tB h2;have:=tB h3;omega
theorem pa{ws:List Nat}{lower:Bool}:∀(f a:Nat) (s:Nat×Bool×List UInt8) {a':Nat} {o:List UInt8},kp ws lower f a s=.inr (a',o)->a<a'/\a'<=ws.length/\o.length+2*(ws.length-a')<=s.2.2.length+2*(ws.length-a)
 | 0,a,s,a',o,h=>by cases h
 | f+1,a,s,a',o,h=>by
  simp only[kp]at h;cases ht:kv ws a with
  | inl e=>rw[ht]at h;cases h
  | inr t=>
   rw[ht]at h;cases t with
   | none=>
    have:=u6 ht;cases h;omega
   | some u=>
    have:=u7 ht;simp only at h;cases hv:tS lower s u with
    | inl e=>rw[hv]at h;cases h
    | inr s'=>
     rw[hv]at h;have:=pa f (a+2) s' h;have:=HJ hv;omega
theorem uc{ws:List Nat}:∀(f a:Nat) (s:List UInt8) {a':Nat} {o:List UInt8},lq ws f a s=.inr (a',o)->a<a'/\a'<=ws.length/\o.length+2*(ws.length-a')<=s.length+2*(ws.length-a)
 | 0,a,s,a',o,h=>by cases h
 | f+1,a,s,a',o,h=>by
  simp only[lq]at h;cases ht:kv ws a with
  | inl e=>rw[ht]at h;cases h
  | inr t=>
   rw[ht]at h;cases t with
   | none=>
    have:=u6 ht;cases h;omega
   | some u=>
    have:=u7 ht;have:=uc f (a+2) _ h;simp at this;omega
theorem xS{ws:List Nat}{a:Nat}:∀(f bit:Nat) (s:List UInt8) {a':Nat} {o:List UInt8},lJ ws a f bit s=.inr (a',o)->a<a'/\a'<=ws.length/\6*o.length+bit<=6*s.length+8*(a'-a)
 | 0,bit,s,a',o,h=>by cases h
 | f+1,bit,s,a',o,h=>by
  simp only[lJ]at h;split at h
  ·cases h
  ·split at h
   ·split at h
    ·cases h
    ·cases h;omega
   ·have:=xS f (bit+6) _ h
    simp at this;omega
theorem sf{ws:List Nat}:∀(n a:Nat) (s:List UInt8) {a':Nat} {o:List UInt8},a<=ws.length->qT ws n a s=.inr (a',o)->a<=a'/\a'<=ws.length/\a'=a+n/\o.length=s.length+n
 | 0,a,s,a',o,ha,h=>by cases h;omega
 | n+1,a,s,a',o,ha,h=>by
  simp only[qT]at h;split at h
  ·cases h
  ·have:=sf n (a+1) _ byO h
   simp at this;omega
theorem Dd{ws:List Nat}{a:Nat}{s:List UInt8}{a':Nat}{o:List UInt8}(h:wi ws a s=.inr (a',o)):a<a'/\a'<=ws.length/\o.length+2*(ws.length-a')<=s.length+2*(ws.length-a):=by
 unfold wi at h;split at h
 ·cases h
 ·split at h
  ·cases h
  ·split at h
   ·have:=sf _ _ _ byO h;omega
   ·split at h
    ·cases h
    ·split at h
     ·cases h
     ·have:=sf _ _ _ byO h;omega
theorem D4{ws:List Nat}{w a:Nat}{s:List UInt8}{a':Nat}{o:List UInt8}(ha:a<=ws.length)(h:tI ws w a s=.inr (a',o)):a<=a'/\a'<=ws.length/\o.length+2*(ws.length-a')<=s.length+2*(ws.length-a)+2:=by
 unfold tI at h;split at h
 ·cases h;simp;omega
 ·split at h
  ·cases h;simp;omega
  ·split at h
   ·unfold upS at h
    split at h
    ·cases h
    ·split at h
     ·cases h
     ·cases h;simp;omega
   ·split at h
    ·have:=pa _ _ _ h;simp only at this;omega
    ·split at h
     ·have:=pa _ _ _ h;simp only at this;omega
     ·split at h
      ·have:=Dd h;omega
      ·split at h
       ·have:=uc _ _ _ h;omega
       ·split at h
        ·have:=xS _ _ _ h;omega
        ·cases h
section
variable {A H:Heap}{db:Nat}{wv:Value}{ws:List Nat}{a:Nat}{out:List UInt8}{lo:Nat}
open XMDc
theorem PB{w:Nat}(hd:DcM A H db wv ws a out)(hlo:lo<=A.length)(hw:w<=255)(hB:out.length+2*(ws.length-a)<=16398):Ev cp lo 89 [ptr db,aB w] H (fun r H'=>xj A db wv ws r H' (tI ws w a out)):=by
 have hlen:=hd.len;have hle:=hd.le;obtain⟨ov,b,⟨hg,hne⟩,hoo⟩:=hd.g;have hdl:=Heap.get_lt hg;have hlA:=hd.ext.1;have hdA:=hd.dbA;clear hoo;unfold tI;refine stG rfl rfl ?_;unfold Pb;simp only[kB,aC];refine aG ?_;by_cases h1:1<=w/\w<=128
 ·have e1:decide ((w:Int)>=1)=true:=decide_eq_true byO
  have e1':decide ((1:Int)<=(w:Nat))=true:=decide_eq_true byO;have e2:decide ((w:Int)<=128)=true:=decide_eq_true byO;rw[if_pos h1];obtain⟨h1,h2⟩:=h1;have e3:(w:Int)-1=((w-1:Nat):Int):=byO;refine aN ?_ ?_<;>intro h
  ·clear h e1 e1' e2
   refine aG ?_;generalize hx:w-1=x at e3 ⊢;rw[<-jI (n:=x) byO];refine cY ?_;refine rF (n:=1) (l:=[UInt8.ofNat x]) hd hg hlo rfl byO byO ?_;intro ad m' H6 hg6 hl6 hd6;refine aG ?_;refine bg ?_;exact⟨rfl,hd6⟩
  ·cases h
 have e1:(decide ((w:Int)>=1)&&decide ((w:Int)<=128))=false:=by
  simp only[Bool.and_eq_false_iff,ai₀];omega
 rw[if_neg h1];refine aN ?_ ?_<;>intro h
 ·exfalso;first|(rw[e1]at h;cases h)|cases h
 clear h e1 h1;(try simp only[aC]);by_cases h1:130<=w/\w<230
 ·have e1:decide ((w:Int)>=130)=true:=decide_eq_true byO
  have e1':decide ((130:Int)<=(w:Nat))=true:=decide_eq_true byO;have e2:decide ((w:Int)<230)=true:=decide_eq_true byO;rw[if_pos h1];obtain⟨h1,h2⟩:=h1;have e3:(w:Int)-130=((w-130:Nat):Int):=byO;have hx99:w-130<=99:=byO;refine aN ?_ ?_<;>intro h
  ·clear h e1 e1' e2
   generalize w-130=x at e3 hx99 ⊢;have q1:(x:Int).tdiv 10=((x/10:Nat):Int):=by rw[Int.tdiv_eq_ediv_of_nonneg byO];omega
   have q2:(x:Int).tmod 10=((x%10:Nat):Int):=by rw[Int.tmod_eq_emod_of_nonneg byO];omega
   have r1:x/10<=9:=byO;have r2:x%10<=9:=byO;generalize x/10=y1 at q1 r1 ⊢;generalize x%10=y2 at q2 r2 ⊢;refine aG ?_;change wpS cp lo _ _ _ (H++[some [Value.int .u8 ((48+y1:Nat):Int),Value.int .u8 ((48+y2:Nat):Int)]]);rw[<-jI (n:=48+y1) byO,<-jI (n:=48+y2) byO];refine cY ?_;refine rF (n:=2) (l:=[UInt8.ofNat (48+y1),UInt8.ofNat (48+y2)]) hd hg hlo rfl byO byO ?_;intro ad m' H6 hg6 hl6 hd6;refine aG ?_;refine bg ?_;exact⟨rfl,hd6⟩
  ·cases h
 have e1:(decide ((w:Int)>=130)&&decide ((w:Int)<230))=false:=by
  simp only[Bool.and_eq_false_iff,ai₀];omega
 rw[if_neg h1];refine aN ?_ ?_<;>intro h
 ·exfalso;first|(rw[e1]at h;cases h)|cases h
 clear h e1 h1;refine aG ?_;have hX:∀{r:Value} {H':Heap} {q:Rd},xj A db wv ws r H' q->xj A db wv ws (aM [r]) H' q:=fun h=>h;by_cases hc:w=235
 ·have e1:decide ((w:Int)=235)=true:=decide_eq_true byO
  rw[if_pos hc];replace hc:w<=235/\235<=w:=byO;refine aN ?_ ?_<;>intro h
  ·clear h e1
   (try simp only[aC]);refine cY ?_;refine aA (upP hd hlo byO) ?_;intro r H1 hr;refine aG ?_;refine bg ?_;exact hX hr
  ·simp at h
 have e1:decide ((w:Int)=235)=false:=decide_eq_false byO;rw[if_neg hc];refine aN ?_ ?_<;>intro h
 ·simp at h
 clear h e1;(try simp only[aC]);by_cases hc:w=230
 ·have e1:decide ((w:Int)=230)=true:=decide_eq_true byO
  rw[if_pos hc];replace hc:w<=230/\230<=w:=byO;refine aN ?_ ?_<;>intro h
  ·clear h e1
   (try simp only[aC]);refine cY ?_;refine aA (MB (lower:=false) (f:=ws.length+1) hd hlo byO byO) ?_;intro r H1 hr;refine aG ?_;refine bg ?_;exact hX hr
  ·simp at h
 have e1:decide ((w:Int)=230)=false:=decide_eq_false byO;rw[if_neg hc];refine aN ?_ ?_<;>intro h
 ·simp at h
 clear h e1;(try simp only[aC]);by_cases hc:w=239
 ·have e1:decide ((w:Int)=239)=true:=decide_eq_true byO
  rw[if_pos hc];replace hc:w<=239/\239<=w:=byO;refine aN ?_ ?_<;>intro h
  ·clear h e1
   (try simp only[aC]);refine cY ?_;refine aA (MB (lower:=true) (f:=ws.length+1) hd hlo byO byO) ?_;intro r H1 hr;refine aG ?_;refine bg ?_;exact hX hr
  ·simp at h
 have e1:decide ((w:Int)=239)=false:=decide_eq_false byO;rw[if_neg hc];refine aN ?_ ?_<;>intro h
 ·simp at h
 clear h e1;(try simp only[aC]);by_cases hc:w=231
 ·have e1:decide ((w:Int)=231)=true:=decide_eq_true byO
  rw[if_pos hc];replace hc:w<=231/\231<=w:=byO;refine aN ?_ ?_<;>intro h
  ·clear h e1
   (try simp only[aC]);refine cY ?_;refine aA (Pf hd hlo byO) ?_;intro r H1 hr;refine aG ?_;refine bg ?_;exact hX hr
  ·simp at h
 have e1:decide ((w:Int)=231)=false:=decide_eq_false byO;rw[if_neg hc];refine aN ?_ ?_<;>intro h
 ·simp at h
 clear h e1;(try simp only[aC]);by_cases hc:w=238
 ·have e1:decide ((w:Int)=238)=true:=decide_eq_true byO
  rw[if_pos hc];replace hc:w<=238/\238<=w:=byO;refine aN ?_ ?_<;>intro h
  ·clear h e1
   (try simp only[aC]);refine cY ?_;refine aA (RZ (f:=ws.length+1) hd hlo byO byO) ?_;intro r H1 hr;refine aG ?_;refine bg ?_;exact hX hr
  ·simp at h
 have e1:decide ((w:Int)=238)=false:=decide_eq_false byO;rw[if_neg hc];refine aN ?_ ?_<;>intro h
 ·simp at h
 clear h e1;(try simp only[aC]);by_cases hc:w=240
 ·have e1:decide ((w:Int)=240)=true:=decide_eq_true byO
  rw[if_pos hc];replace hc:w<=240/\240<=w:=byO;refine aN ?_ ?_<;>intro h
  ·clear h e1
   (try simp only[aC]);refine cY ?_;refine aA (QA (f:=2*ws.length+2) hd hlo byO byO) ?_;intro r H1 hr;refine aG ?_;refine bg ?_;exact hX hr
  ·simp at h
 have e1:decide ((w:Int)=240)=false:=decide_eq_false byO;rw[if_neg hc];refine aN ?_ ?_<;>intro h
 ·simp at h
 clear h e1;refine aG ?_;refine bg ?_;exact⟨rfl,hd.ext,byO⟩
end
open XMDc
def CE(l:List Int):Nat ⊕ List UInt8:=if oz l=false then .inl 3 else if 8192<l.length then .inl 4 else IB (l.map Int.toNat)
def QL(H':Heap)(r:Value):Nat ⊕ List UInt8->Prop
 | .inl e=>r=.tuple #[.slice none 0 0,.int .i64 (e:Nat)]/\e≠0
 | .inr out=>∃u,r=.tuple #[u,.int .i64 0]/\SlU H' u out
theorem Hy{l:List Int}(h:SlI H v l)(hc:oz l=true):SlN H v (l.map Int.toNat)/\∀k,(l.map Int.toNat).getD k 0<=255:=by
 have hall:=List.all_eq_true.1 hc;have hm:(l.map Int.toNat).map aB=l.map (Value.int .i64):=by
  rw[List.map_map];refine List.map_congr_left fun x hx=>?_;have:=hall x hx;simp only[ac₀,af₀]at this;show Value.int .i64 _=_;rw[Int.toNat_of_nonneg this.1]
 refine⟨?_,fun k=>?_⟩
 ·rcases h with ⟨rfl,rfl⟩|⟨b,o,sp,cap,xs,h1,h2,h3,h4⟩
  ·exact .inl ⟨rfl,rfl⟩
  ·refine .inr ⟨b,o,sp,cap,xs,by simpa using h1,h2,?_,by simpa using h4⟩
   rw[ay₀,hm];exact h3
 ·by_cases hk:k<l.length
  ·have:=hall l[k] (List.getElem_mem hk)
   simp only[ac₀,af₀]at this;simp[au₀,hk];omega
  ·simp[au₀,hk]
section
variable {lo:Nat}{H:Heap}{v:Value}{l:List Int}
theorem Rm(hv:SlI H v l)(hl:l.length<=100000)(hlo:lo<=H.length):Ev cp lo 46 [v] H (fun r H'=>Ext H H'/\QL H' r (CE l)):=by
 obtain⟨ad,c,ev⟩:=hv.len;rw[ev]at hv ⊢;refine stG rfl rfl ?_;unfold PT;simp only[kB,aC];refine aG ?_;refine aT (fun k S H'=>(H=H'/\oz (l.take k)=true)/\∃(z:Nat->Value),S=[.slice ad l.length c,z 1,z 2,z 3,z 4,z 5,z 6,.slice ad l.length c,.int .i64 (l.length:Nat),.int .i64 (k:Nat),z 10,z 11]) l.length ⟨⟨rfl,rfl⟩,aJ rfl⟩ ?_ ?_ ?_
 ·rintro k S H' hk ⟨_,z,rfl⟩
  exact⟨decide ((k:Int)<(l.length:Nat)),by simp(disch:=try exact dO)only[evB,xtr,Nat.reduceAdd,Nat.reduceBEq,Int.reduceToNat, *],by simp⟩
 ·rintro k S H' hk ⟨⟨rfl,hcw⟩,z,rfl⟩
  have hcw2:=xL hk hcw;have hno:=E1 hk;obtain⟨b1,o1,x1,i1,g1,e1⟩:=Gr hv hk;generalize l.getD k 0=x at e1 hcw2 hno;replace hno:False\/_:=.inr hno;clear hcw;refine aG ?_;by_cases hx:0<=x/\x<=255
  ·obtain⟨hx1,hx2⟩:=hx
   rw[decide_eq_true hx1,decide_eq_true hx2]at hcw2;have hd1:decide (x<0)=false:=decide_eq_false byO;have hd2:decide (x>255)=false:=decide_eq_false byO;have hd3:decide (255<x)=false:=decide_eq_false byO;refine aN ?_ ?_<;>intro h
   ·exfalso;first|(simp at h;done)|cases h
   clear h hd1 hd2 hd3;refine aG ?_;exact⟨⟨trivial,hcw2⟩,aJ ncM⟩
  ·have hc:oz l=false:=hno.resolve_left id (by
    simp only[Bool.and_eq_false_iff,ai₀];omega)
   have hd:(decide (x<0) || decide (x>255))=true:=by simp;omega
   refine aN ?_ ?_<;>intro h
   ·refine aG ?_
    refine bg ?_;exact⟨Ext.refl _,by unfold CE;rw[hc];exact⟨rfl,by decide⟩⟩
   ·exfalso;first|(simp at h;omega)|cases h
 ·rintro S H' ⟨⟨rfl,hcw⟩,z,rfl⟩
  rw[List.take_length]at hcw;unfold CE;rw[hcw];simp only[Bool.true_eq_false,if_false];obtain⟨hws,hby⟩:=Hy hv hcw;clear hcw;(try simp only[aC]);by_cases h8:8192<l.length
  ·have hd:decide ((l.length:Int)>8192)=true:=decide_eq_true byO
   rw[if_pos h8];refine aN ?_ ?_<;>intro h
   ·refine aG ?_
    refine bg ?_;exact⟨Ext.refl _,rfl,by decide⟩
   ·simp at h
  have hd:decide ((l.length:Int)>8192)=false:=decide_eq_false byO;rw[if_neg h8];refine aN ?_ ?_<;>intro h
  ·simp at h
  clear h hd;have hwl:(l.map Int.toNat).length=l.length:=by simp
  generalize l.map Int.toNat=ws at hws hby hwl ⊢;have hwl':ws.length<=l.length/\l.length<=ws.length:=byO;obtain⟨wv,hwv⟩:∃wv,False\/Value.slice ad l.length c=wv:=⟨_,.inr rfl⟩;refine aG ?_;have hdc:DcM H (H++[some [Value.slice ad l.length c,aB 0,.slice none 0 0]]) H.length (.slice ad l.length c) ws 0 []:=
   ⟨Ext.app _ _,hws,⟨_,H.length+1,⟨aH,byO⟩,Own.nil byO⟩,Nat.le_refl _,byO,hby,Nat.zero_le _,by simp⟩
  change wpS cp lo _ _ _ (H++[some [Value.slice ad l.length c,aB 0,.slice none 0 0]]);generalize H++[some [Value.slice ad l.length c,aB 0,.slice none 0 0]]=H0 at hdc;obtain⟨R,hR⟩:∃R,False\/IB ws=R:=⟨_,.inr rfl⟩;rw[hR.resolve_left id];have hR0:False\/uy ws (ws.length+1) 0 []=R:=.inr (hR.resolve_left id);clear hR;refine fW (fun S' H'=>∃a out,(DcM H H' H.length (.slice ad l.length c) ws a out/\(False\/R=.inr out))/\∃(z:Nat->Value),S'=[.slice ad l.length c,z 1,z 2,z 3,ptr H.length,z 5,z 6,z 7,z 8,z 9,z 10,z 11]) ?_ ?_
  ·refine bK (fun m S H'=>∃a f out,(DcM H H' H.length (.slice ad l.length c) ws a out/\out.length+2*(ws.length-a)<=16384)/\(ws.length-a<f/\m=ws.length-a)/\(False\/uy ws f a out=R)/\∃(z:Nat->Value),S=[.slice ad l.length c,z 1,z 2,z 3,ptr H.length,z 5,z 6,z 7,z 8,z 9,z 10,z 11]) ws.length ⟨0,_,[],⟨hdc,by simp;omega⟩,⟨byO,byO⟩,hR0,aJ rfl⟩ ?_
   clear hR0 hdc;rintro m S H1 ⟨a,f,out,⟨hd,hB⟩,⟨hf,hm⟩,hR,z,rfl⟩;obtain⟨g,rfl⟩:∃g,f=g+1:=⟨f-1,byO⟩;have hR2:False\/(if ws.length<=a then .inr out else if wd ws a=129 then .inr out else match tI ws (wd ws a) (a+1) out with | .inl e=>.inl e | .inr (a',out')=>uy ws g a' out')=R:=hR;clear hR;replace hm:m<=ws.length-a/\ws.length-a<=m:=byO;obtain⟨ov,b,⟨hg,hne⟩,hoo⟩:=hd.g;have hdl:=Heap.get_lt hg;clear hoo;(try simp only[aC]);by_cases ha:ws.length<=a
   ·have hdd:decide ((a:Int)<(l.length:Nat))=false:=decide_eq_false byO
    have h2:=hR2.resolve_left id;rw[if_pos ha]at h2;subst h2;refine aN ?_ ?_<;>intro h
    ·simp at h
    ·(try simp only[aC])
     exact⟨a,out,⟨hd,.inr rfl⟩,aJ rfl⟩
   have hdd:decide ((a:Int)<(l.length:Nat))=true:=decide_eq_true byO;have h2:=hR2.resolve_left id;rw[if_neg ha]at h2;replace h2:False\/_:=.inr h2;clear hR2;refine aN ?_ ?_<;>intro h;rotate_left
   ·simp at h
   clear h hdd;obtain⟨b1,o1,x1,i1,g1,e1⟩:=hd.at (k:=a) byO;have hbx:=hby a;have hmv:=hd.move (a':=a+1) hg byO;obtain⟨x,hx⟩:∃x,False\/wd ws a=x:=⟨_,.inr rfl⟩;rw[hx.resolve_left id]at e1 h2;replace hbx:x<=255:=by rw[<-hx.resolve_left id];exact hbx
   refine aG ?_;change wpS cp lo _ _ _ (List.set H1 H.length (some [.slice ad l.length c,aB (a+1),ov]));generalize List.set H1 H.length (some [.slice ad l.length c,aB (a+1),ov])=H2 at hmv;clear hd hg g1 i1 e1;by_cases h129:x=129
   ·have hdd:decide ((x:Int)=129)=true:=decide_eq_true byO
    have h3:=h2.resolve_left id;rw[if_pos h129]at h3;subst h3;clear h2;replace h129:x<=129/\129<=x:=byO;refine aN ?_ ?_<;>intro h
    ·(try simp only[aC])
     exact⟨a+1,out,⟨hmv,.inr rfl⟩,aJ rfl⟩
    ·simp at h
   have hdd:decide ((x:Int)=129)=false:=decide_eq_false byO;have h3:=h2.resolve_left id;rw[if_neg h129]at h3;refine aN ?_ ?_<;>intro h
   ·simp at h
   clear h hdd h2;replace h3:False\/_:=.inr h3;(try simp only[aC]);refine cY ?_;refine aA (PB hmv hlo hbx byO) ?_;intro r H3 hr;cases hq:tI ws x (a+1) out with
   | inl e=>
    rw[hq]at hr h3;obtain⟨rfl,hxx,he⟩:=hr;have h4:=h3.resolve_left id;simp only at h4;subst h4;clear h3;refine aG ?_;refine aN ?_ ?_<;>intro h
    ·refine aG ?_
     refine bg ?_;exact⟨hxx,rfl,he⟩
    ·exfalso;simp at h;exact he h
   | inr q=>
    obtain⟨a',out'⟩:=q;have hql:=D4 byO hq;rw[hq]at hr h3;obtain⟨rfl,hd3⟩:=hr;simp only at h3;clear hmv;refine aG ?_;refine aN ?_ ?_<;>intro h
    ·simp at h
    ·clear h
     (try simp only[aC]);exact⟨ws.length-a',byO,a',g,out',⟨hd3,byO⟩,⟨byO,rfl⟩,h3,aJ rfl⟩
  ·rintro S' H1 ⟨a,out,⟨hd,hR⟩,z,rfl⟩
   have h2:=hR.resolve_left id;subst h2;obtain⟨ov,b,⟨hg,hne⟩,hoo⟩:=hd.g;have hsl:SlU H1 ov out:=Sl.ofOwn hoo;have hx:=hd.ext;clear hoo hd hR0 hdc;refine aG ?_;refine bg ?_;exact⟨hx,_,rfl,hsl⟩
end
abbrev DI(l:List UInt8):Value:=.string ⟨l.toArray⟩
theorem qt:∀l:List UInt8,bytesOf (uU l)=some l
 | []=>rfl
 | b::l=>by
  have ih:=qt l;simp only[uU,ag₀,bytesOf]at ih ⊢;rw[ih];simp
theorem bytes_beq(a b:List UInt8):((ByteArray.mk a.toArray).toList==(ByteArray.mk b.toArray).toList)=(a==b):=by
 rw[ByteArray.toList_eq,ByteArray.toList_eq]
section
variable {H:Heap}
theorem D8{l:List UInt8}(h:SlU H v l):aI .b2s [v] H=some (DI l):=by
 rcases h with ⟨rfl,rfl⟩|⟨b,o,sp,cap,xs,rfl,h1,h2,h3,h4,h5⟩
 ·rfl
 ·simp only[aI,Heap.cells,h1,if_pos h3,h2]
  rw[show l.map vD=uU l from rfl];simp only[ao₀,qt,Option.map_some]
theorem C7{a b:List UInt8}:aI (.bin .eql) [DI a,DI b] H=some (.bool (a==b)):=by
 simp only[aI,bH,qk,bytes_beq]
end
end Go.Proofs.YtmnlgdpdgjbfgaaGreat
