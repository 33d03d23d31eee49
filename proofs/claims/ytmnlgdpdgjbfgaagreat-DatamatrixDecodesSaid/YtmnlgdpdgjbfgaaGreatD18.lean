/- Lemmas. -/
import Derived.Test.YtmnlgdpdgjbfgaaGreatD16
import Derived.Test.YtmnlgdpdgjbfgaaGreatD17
set_option linter.all false
namespace Go.Proofs.YtmnlgdpdgjbfgaaGreat
open Go.Abs
variable{H:Heap}
set_option maxRecDepth 20000
section
variable {lo:Nat}{H:Heap}{v:Value}{l:List Int}
open XMDc
theorem Rk(hv:SlI H v l)(hl:l.length<=100000):Ev cp lo 81 [v] H (fun r H'=>H=H'/\r=.bool (pE l)):=by
 obtain⟨ad,c,ev⟩:=hv.len;rw[ev]at hv ⊢;refine stG rfl rfl ?_;unfold NY;simp only[kB,aB];refine aL ?_;refine aa (fun k S H'=>(H=H'/\pE (l.take k)=true)/\∃(z:Nat->Value),S=[.slice ad l.length c,z 1,.int .i64 (k:Nat)]) l.length ⟨⟨rfl,rfl⟩,aR rfl⟩ ?_ ?_ ?_
 ·rintro k S H' hk ⟨_,z,rfl⟩
  exact⟨decide ((k:Int)<(l.length:Nat)),by simp(disch:=try exact dO)only[evB,xtr,Nat.reduceAdd,Nat.reduceBEq,Int.reduceToNat, *],by simp⟩
 ·rintro k S H' hk ⟨⟨rfl,hcw⟩,z,rfl⟩
  have hcw2:=vR hk hcw;have hno:=C9 hk;obtain⟨b1,o1,x1,i1,g1,e1⟩:=E9 hv hk;generalize l.getD k 0=x at e1 hcw2 hno;replace hno:False\/_:=.inr hno;clear hcw;(try simp only[aB]);by_cases hx:0<=x/\x<=255
  ·obtain⟨hx1,hx2⟩:=hx
   rw[decide_eq_true hx1,decide_eq_true hx2]at hcw2;have hd1:decide (x<0)=false:=decide_eq_false byO;have hd2:decide (x>255)=false:=decide_eq_false byO;have hd3:decide (255<x)=false:=decide_eq_false byO;refine aP ?_ ?_<;>intro h
   ·exfalso;first|(simp at h;done)|cases h
   clear h hd1 hd2 hd3;refine aL ?_;exact⟨⟨trivial,hcw2⟩,aR ncM⟩
  ·have hc:pE l=false:=hno.resolve_left id (by
    simp only[Bool.and_eq_false_iff,ai₀];omega)
   have hd:(decide (x<0) || decide (x>255))=true:=by simp;omega
   rw[hc];refine aP ?_ ?_<;>intro h
   ·refine aL ?_
    refine bM ?_;exact⟨rfl,rfl⟩
   ·exfalso;first|(simp at h;omega)|cases h
 ·rintro S H' ⟨⟨rfl,hcw⟩,z,rfl⟩
  rw[List.take_length]at hcw;rw[hcw];clear hcw;refine aL ?_;refine bM ?_;exact⟨rfl,rfl⟩
end
abbrev Rd:=Nat ⊕ (Nat×List UInt8)
abbrev wd(ws:List Nat)(i:Nat):Nat:=ws.getD i 0
def upS(ws:List Nat)(a:Nat)(out:List UInt8):Rd:=
 if ws.length<=a then .inl 10 else if wd ws a<1\/128<wd ws a then .inl 22 else .inr (a+1,out++[UInt8.ofNat (wd ws a+127)])
def jd(ws:List Nat)(a:Nat):Nat ⊕ Option (Nat×Nat×Nat):=
 if ws.length<=a then .inl 10 else if wd ws a=254 then .inr none else if ws.length<=a+1 then .inl 10
 else if 256*wd ws a+wd ws (a+1)<1\/64000<256*wd ws a+wd ws (a+1) then .inl 22
 else .inr (some ((256*wd ws a+wd ws (a+1)-1)/1600,(256*wd ws a+wd ws (a+1)-1)/40%40,(256*wd ws a+wd ws (a+1)-1)%40))
def hZ(lower:Bool)(set v:Nat):Nat:=
 if set=0/\v=3 then 32 else if set=0/\4<=v/\v<=13 then 44+v else if set=0/\14<=v then(if lower then 83+v else 51+v)
 else if set=1/\v<=31 then v else if set=2/\v<=14 then 33+v else if set=2/\v<=21 then 43+v else if set=2/\v<=26 then 69+v
 else if set=3/\v<=31 then(if lower=true/\1<=v/\v<=26 then 64+v else 96+v) else 128
def iv(lower:Bool)(s:Nat×Bool×List UInt8)(v:Nat):Nat ⊕ (Nat×Bool×List UInt8):=
 if s.1=0/\v<=2 then .inr (v+1,s.2.1,s.2.2)
 else if s.1=2/\v=30/\s.2.1=false then .inr (0,true,s.2.2)
 else if hZ lower s.1 v=128 then .inl 22
 else .inr (0,false,s.2.2++[UInt8.ofNat (if s.2.1 then hZ lower s.1 v+128 else hZ lower s.1 v)])
def uq(lower:Bool)(s:Nat×Bool×List UInt8)(u:Nat×Nat×Nat):Nat ⊕ (Nat×Bool×List UInt8):=match iv lower s u.1 with
 | .inl e=>.inl e
 | .inr s1=>match iv lower s1 u.2.1 with
  | .inl e=>.inl e
  | .inr s2=>iv lower s2 u.2.2
def kO(ws:List Nat)(lower:Bool):Nat->Nat->Nat×Bool×List UInt8->Rd
 | 0,_,_=>.inl 10
 | f+1,a,s=>match jd ws a with
  | .inl e=>.inl e
  | .inr none=>.inr (a+1,s.2.2)
  | .inr (some u)=>match uq lower s u with
   | .inl e=>.inl e
   | .inr s'=>kO ws lower f (a+2) s'
def jT(v:Nat):Nat:=if 14<=v then 51+v else if 4<=v then 44+v else if v=0 then 13 else if v=1 then 42 else if v=2 then 62 else 32
def lK(ws:List Nat):Nat->Nat->List UInt8->Rd
 | 0,_,_=>.inl 10
 | f+1,a,out=>match jd ws a with
  | .inl e=>.inl e
  | .inr none=>.inr (a+1,out)
  | .inr (some u)=>lK ws f (a+2) (out++[UInt8.ofNat (jT u.1),UInt8.ofNat (jT u.2.1),UInt8.ofNat (jT u.2.2)])
def kz(ws:List Nat)(a bit:Nat):Nat:=(256*wd ws (a+bit/8)+if bit/8<(bit+5)/8 then wd ws (a+(bit+5)/8) else 0)/2^(10-bit%8)%64
def mD(ws:List Nat)(a:Nat):Nat->Nat->List UInt8->Rd
 | 0,_,_=>.inl 10
 | f+1,bit,out=>if ws.length<=a+(bit+5)/8 then .inl 10
  else if kz ws a bit=31 then(if wd ws (a+(bit+5)/8)%2^((8-(bit+6)%8)%8)≠0 then .inl 22 else .inr (a+(bit+5)/8+1,out))
  else mD ws a f (bit+6) (out++[UInt8.ofNat (if kz ws a bit<32 then kz ws a bit+64 else kz ws a bit)])
def unm(ws:List Nat)(a:Nat):Nat:=(wd ws a+256-msk a)%256
def oL(ws:List Nat):Nat->Nat->List UInt8->Rd
 | 0,a,out=>.inr (a,out)
 | n+1,a,out=>if ws.length<=a then .inl 10 else oL ws n (a+1) (out++[UInt8.ofNat (unm ws a)])
def rW(ws:List Nat)(a:Nat)(out:List UInt8):Rd:=
 if ws.length<=a then .inl 10 else if unm ws a=0 then .inl 22
 else if unm ws a<250 then oL ws (unm ws a) (a+1) out
 else if ws.length<=a+1 then .inl 10 else if 250<=unm ws (a+1) then .inl 22
 else oL ws (250*(unm ws a-249)+unm ws (a+1)) (a+2) out
def tT(ws:List Nat)(w a:Nat)(out:List UInt8):Rd:=
 if 1<=w/\w<=128 then .inr (a,out++[UInt8.ofNat (w-1)])
 else if 130<=w/\w<230 then .inr (a,out++[UInt8.ofNat (48+(w-130)/10),UInt8.ofNat (48+(w-130)%10)])
 else if w=235 then upS ws a out else if w=230 then kO ws false (ws.length+1) a (0,false,out) else if w=239 then kO ws true (ws.length+1) a (0,false,out)
 else if w=231 then rW ws a out else if w=238 then lK ws (ws.length+1) a out else if w=240 then mD ws a (2*ws.length+2) 0 out else .inl 22
def rX(ws:List Nat):Nat->Nat->List UInt8->Nat ⊕ List UInt8
 | 0,_,out=>.inr out
 | f+1,a,out=>if ws.length<=a then .inr out else if wd ws a=129 then .inr out else match tT ws (wd ws a) (a+1) out with
  | .inl e=>.inl e
  | .inr (a',out')=>rX ws f a' out'
def FZ(ws:List Nat):Nat ⊕ List UInt8:=rX ws (ws.length+1) 0 []
abbrev uU(l:List UInt8):List Value:=l.map Co
structure DcM (A H:Heap)(db:Nat)(wv:Value)(ws:List Nat)(a:Nat)(out:List UInt8):Prop where
 ext:Ext A H
 w:SlN A wv ws
 g:∃ov b,(H.get db=some [wv,aD a,ov]/\b≠db)/\Own A.length 1 H ov b (uU out)
 dbA:A.length<=db
 len:ws.length<=8192
 byt:∀k,ws.getD k 0<=255
 le:a<=ws.length
 big:out.length<=20000
theorem de{n:Nat}(h:n<256):Co (UInt8.ofNat n)=.int .u8 (n:Nat):=by
 unfold Co;rw[UInt8.toNat_ofNat_of_lt' h]
theorem wM{lo b:Nat}{v:Value}{X:List Value}(h:Own lo 1 H v b X):∃ad n,v=.slice ad n n:=by
 obtain⟨ad,n,e,_⟩:=h.len byO;exact⟨ad,n,e⟩
theorem O3:∀l:List UInt8,oneCells (uU l)=true
 | []=>rfl
 | x::l=>by simp[uU,oneCells,Value.oneCell']
section
variable {A H:Heap}{db:Nat}{wv:Value}{ws:List Nat}{a:Nat}{out:List UInt8}{lo:Nat}
theorem DcM.mono{H':Heap}(h:DcM A H db wv ws a out)(e:Ext H H'):DcM A H' db wv ws a out:=by
 obtain⟨ov,b,⟨g1,g2⟩,g3⟩:=h.g;exact⟨h.ext.trans e,h.w,⟨ov,b,⟨e.get g1,g2⟩,g3.mono e⟩,h.dbA,h.len,h.byt,h.le,h.big⟩
theorem DcM.keep{H':Heap}{c n:Nat}{Y:List Value}(h:DcM A H db wv ws a out)(hc:c≠db)(hA:A.length<=c)(hX:H.get c=some (aD n::Y))(hk:Keep c H H'):DcM A H' db wv ws a out:=by
 obtain⟨ov,b,⟨g1,g2⟩,g3⟩:=h.g;refine⟨hk.ext h.ext hA,h.w,?_,h.dbA,h.len,h.byt,h.le,h.big⟩;obtain⟨h1,⟨h2,h3⟩|⟨m,h2,h3,h4,h5⟩⟩:=g3
 ·exact⟨ov,db+1,⟨hk.get g1 (fun e=>hc e.symm),byO⟩,by have:=h.dbA;omega,.inl ⟨h2,h3⟩⟩
 ·have hbc:b≠c:=by
   rintro rfl;rw[hX]at h5
   match out,h5 with
   | [],h5=>simp at h5
   | x::out,h5=>simp at h5
  exact⟨ov,b,⟨hk.get g1 (fun e=>hc e.symm),g2⟩,h1,.inr ⟨m,h2,h3,h4,hk.get h5 hbc⟩⟩
theorem DcM.move{ov:Value}{a':Nat}(h:DcM A H db wv ws a out)(hg:H.get db=some [wv,aD a,ov])(ha:a'<=ws.length):DcM A (List.set H db (some [wv,aD a',ov])) db wv ws a' out:=by
 obtain⟨ov',b,⟨g1,g2⟩,g3⟩:=h.g;rw[hg]at g1;cases g1;exact⟨keepSet.ext h.ext h.dbA,h.w,⟨ov,b,⟨aF (Heap.get_lt hg),g2⟩,g3.keep keepSet g2⟩,h.dbA,h.len,h.byt,ha,h.big⟩
theorem qB{cp:FuncId->Option CF}{z:List Value}{ov:Value}{n:Nat}{l:List UInt8}{R:Value->Heap->Prop}(h:DcM A H db wv ws a out)(hg:H.get db=some [wv,aD a,ov])(hlo:lo<=A.length)(hn:l.length=n)(hn0:0<n)(hbig:out.length+n<=20000)
  (k:∀(ad:Option Addr) (m:Nat) (H2:Heap),H2.get db=some [wv,aD a,ov]->db<H2.length->DcM A (List.set H2 db (some [wv,aD a,.slice ad m m])) db wv ws a (out++l)->R (.slice ad m m) H2):wpH cp lo (.app 1 z) [ov,.slice (some ⟨H.length,0,none⟩) n n] (H++[some (uU l)]) R:=by
 obtain⟨ov',b,⟨g1,g2⟩,g3⟩:=h.g;rw[hg]at g1;cases g1;have hx:Ext H (H++[some (uU l)]):=Ext.app _ _;have hA:=h.ext.1;refine dG ((g3.lower hlo).mono hx) (by simp;omega) byO hn0 (by simp;omega) aK (c:=uU l) (by simp;omega) (by rw[List.drop_zero,List.take_of_length_le (by simp;omega)]) (O3 l) ?_;intro w' H2 ho hk hl;obtain⟨ad,m,rfl⟩:=wM ho;have hdl:=Heap.get_lt hg;have hl1:(H++[some (uU l)]).length=H.length+1:=by simp
 have hb:A.length<=b:=g3.1;have hg2:=hk.get (hx.get hg) (fun e=>g2 e.symm);refine k ad m H2 hg2 byO ⟨keepSet.ext (hk.ext (h.ext.trans hx) hb) h.dbA,h.w,⟨_,H.length+1,⟨aF byO,byO⟩,?_⟩,h.dbA,h.len,h.byt,h.le,by simp;omega⟩;have:Own A.length 1 H2 (.slice ad m m) (H.length+1) (uU (out++l)):=by
  rw[hl1]at ho;obtain⟨h1,h2⟩:=ho;exact⟨byO,by simpa[uU]using h2⟩
 exact this.keep keepSet byO
theorem DcM.at{k:Nat}(h:DcM A H db wv ws a out)(hk:k<ws.length):∃b o xs,aJ (.iAddr 1) [wv,.int .i64 (k:Nat)] H=some (.pointer (some ⟨b,o,none⟩))/\H.get b=some xs/\xs[o]?=some (aD (wd ws k)):=jQ (h.w.mono h.ext) hk
def vy(A:Heap)(db:Nat)(wv:Value)(ws:List Nat)(r:Value)(H':Heap):Rd->Prop
 | .inl e=>r=.int .i64 (e:Nat)/\Ext A H'/\e≠0
 | .inr (a,out)=>r=.int .i64 0/\DcM A H' db wv ws a out
open XMDc
theorem upP(hd:DcM A H db wv ws a out)(hlo:lo<=A.length)(hb:out.length+1<=20000):Ev cp lo 138 [ptr db] H (fun r H'=>vy A db wv ws r H' (upS ws a out)):=by
 obtain⟨ov,b,⟨hg,hne⟩,ho⟩:=hd.g;have hlen:=hd.len;have hle:=hd.le;have hdA:=hd.dbA;have hdl:=Heap.get_lt hg;obtain⟨aw,cw,ew⟩:=hd.w.len;subst ew;have hx0:=hd.ext;unfold upS;refine stG rfl rfl ?_;unfold IT;simp only[kB,aB];refine aL ?_;by_cases ha:ws.length<=a
 ·have hdd:decide ((a:Int)>=(ws.length:Nat))=true:=decide_eq_true byO
  have hdd2:decide ((ws.length:Int)<=(a:Nat))=true:=decide_eq_true byO;rw[if_pos ha];refine aP ?_ ?_<;>intro h
  ·refine aL ?_
   refine bM ?_;exact⟨rfl,hx0,byO⟩
  ·simp at h
 have hdd:decide ((a:Int)>=(ws.length:Nat))=false:=decide_eq_false byO;have hdd2:decide ((ws.length:Int)<=(a:Nat))=false:=decide_eq_false byO;rw[if_neg ha];obtain⟨b1,o1,x1,i1,g1,e1⟩:=hd.at (k:=a) byO;have hby:=hd.byt a;generalize hx:wd ws a=x at e1;replace hby:x<=255:=by rw[<-hx];exact hby
 clear hx;refine aP ?_ ?_<;>intro h
 ·simp at h
 clear h hdd hdd2;refine aL ?_;by_cases hx:x<1\/128<x
 ·have hdd:(decide ((x:Int)<1) || decide ((x:Int)>128))=true:=by simp;omega
  rw[if_pos hx];refine aP ?_ ?_<;>intro h
  ·refine aL ?_
   refine bM ?_;exact⟨rfl,hx0,byO⟩
  ·simp at h
 have hx1:1<=x:=byO;have hx2:x<=128:=byO;have hd1:decide ((x:Int)<1)=false:=decide_eq_false byO;have hd2:decide ((x:Int)>128)=false:=decide_eq_false byO;have hd3:decide ((128:Int)<(x:Nat))=false:=decide_eq_false byO;rw[if_neg hx];clear hx;have hmv:=hd.move (a':=a+1) hg byO;refine aP ?_ ?_<;>intro h
 ·exfalso;first|(simp at h;done)|cases h
 clear h hd1 hd2 hd3;refine aL ?_;have hg1:Heap.get (List.set H db (some [.slice aw ws.length cw,aD (a+1),ov])) db=some [.slice aw ws.length cw,aD (a+1),ov]:=aF hdl;change wpS cp lo _ _ _ (List.set H db (some [.slice aw ws.length cw,aD (a+1),ov])++[some [Value.int .u8 ((x+127:Nat):Int)]]);have hl1:H.length=(List.set H db (some [.slice aw ws.length cw,aD (a+1),ov])).length:=by simp
 generalize List.set H db (some [.slice aw ws.length cw,aD (a+1),ov])=H1 at hmv hg1 hl1;rw[hl1];rw[<-de (n:=x+127) byO];refine dh ?_;refine qB (n:=1) (l:=[UInt8.ofNat (x+127)]) hmv hg1 hlo rfl byO hb ?_;intro ad m H2 hg2 hl2 hd2;refine aL ?_;refine bM ?_;exact⟨rfl,hd2⟩
def M3(u:Nat×Nat×Nat):Value:=.agg #[aD u.1,aD u.2.1,aD u.2.2]
def OJ(A:Heap)(db:Nat)(wv:Value)(ws:List Nat)(a:Nat)(out:List UInt8)(r:Value)(H':Heap):Nat ⊕ Option (Nat×Nat×Nat)->Prop
 | .inl e=>r=.tuple #[M3 (0,0,0),.bool false,.int .i64 (e:Nat)]/\Ext A H'/\e≠0
 | .inr none=>r=.tuple #[M3 (0,0,0),.bool true,.int .i64 0]/\DcM A H' db wv ws (a+1) out
 | .inr (some u)=>r=.tuple #[M3 u,.bool false,.int .i64 0]/\DcM A H' db wv ws (a+2) out/\(u.1<=39/\u.2.1<=39/\u.2.2<=39)/\a+2<=ws.length
theorem JK(hd:DcM A H db wv ws a out)(hlo:lo<=A.length):Ev cp lo 182 [ptr db] H (fun r H'=>OJ A db wv ws a out r H' (jd ws a)):=by
 obtain⟨ov,b,⟨hg,hne⟩,ho⟩:=hd.g;have hlen:=hd.len;have hle:=hd.le;have hdA:=hd.dbA;have hdl:=Heap.get_lt hg;obtain⟨aw,cw,ew⟩:=hd.w.len;subst ew;have hlA:=hd.ext.1;unfold jd;refine stG rfl rfl ?_;unfold Ir;simp only[kB,aB];refine aL ?_;have hxb:Ext H (H++[some [aD 0,aD 0,aD 0]]):=Ext.app _ _;have hgb:(H++[some [aD 0,aD 0,aD 0]]).get H.length=some [aD 0,aD 0,aD 0]:=aK;have hgd:=hxb.get hg;have hd1:=hd.mono hxb;change wpS cp lo _ _ _ (H++[some [aD 0,aD 0,aD 0]]);generalize H++[some [aD 0,aD 0,aD 0]]=H1 at hxb hgb hgd hd1;have hbl:=Heap.get_lt hgb;have hx1:=hd1.ext;have hne3:H.length≠db:=byO;by_cases ha:ws.length<=a
 ·have hdd:decide ((a:Int)>=(ws.length:Nat))=true:=decide_eq_true byO
  have hdd2:decide ((ws.length:Int)<=(a:Nat))=true:=decide_eq_true byO;rw[if_pos ha];refine aP ?_ ?_<;>intro h
  ·refine aL ?_
   have hgz:=aF (c:=[aD 0,aD 0,aD 0]) hbl;have hxz:Ext A (List.set H1 H.length (some [aD 0,aD 0,aD 0])):=keepSet.ext hx1 hlA;generalize List.set H1 H.length (some [aD 0,aD 0,aD 0])=H2 at hgz hxz;refine bM ?_;exact⟨rfl,hxz,byO⟩
  ·simp at h
 have hdd:decide ((a:Int)>=(ws.length:Nat))=false:=decide_eq_false byO;have hdd2:decide ((ws.length:Int)<=(a:Nat))=false:=decide_eq_false byO;rw[if_neg ha];obtain⟨b1,o1,x1,i1,g1,e1⟩:=hd1.at (k:=a) byO;have hby:=hd.byt a;obtain⟨x,hx⟩:∃x,False\/wd ws a=x:=⟨_,.inr rfl⟩;rw[hx.resolve_left id]at e1 ⊢;replace hby:x<=255:=by rw[<-hx.resolve_left id];exact hby
 refine aP ?_ ?_<;>intro h
 ·simp at h
 clear h hdd hdd2;(try simp only[aB]);by_cases h254:x=254
 ·have hdd:decide ((x:Int)=254)=true:=decide_eq_true byO
  rw[if_pos h254];replace h254:x<=254:=byO;refine aP ?_ ?_<;>intro h
  ·clear h hdd
   refine aL ?_;have hmv:=hd1.move (a':=a+1) hgd byO;have hgz:Heap.get (List.set H1 db (some [.slice aw ws.length cw,aD (a+1),ov])) H.length=some [aD 0,aD 0,aD 0]:=by rw[aH byO];exact hgb
   have hlz:=Heap.get_lt hgz;have hfin:=hmv.keep (c:=H.length) hne3 hlA hgz (keepSet (x:=some [aD 0,aD 0,aD 0]));have hgy:=aF (c:=[aD 0,aD 0,aD 0]) hlz;change eP _ _ .ret _ (List.set (List.set H1 db (some [.slice aw ws.length cw,aD (a+1),ov])) H.length (some [aD 0,aD 0,aD 0]));generalize List.set (List.set H1 db (some [.slice aw ws.length cw,aD (a+1),ov])) H.length (some [aD 0,aD 0,aD 0])=H2 at hfin hgy;refine bM ?_;exact⟨rfl,hfin⟩
  ·simp at h
 have hdd:decide ((x:Int)=254)=false:=decide_eq_false byO;rw[if_neg h254];refine aP ?_ ?_<;>intro h
 ·simp at h
 clear h hdd;(try simp only[aB]);by_cases ha1:ws.length<=a+1
 ·have hdd:decide ((a:Int)+1>=(ws.length:Nat))=true:=decide_eq_true byO
  have hdd2:decide ((ws.length:Int)<=(a:Nat)+1)=true:=decide_eq_true byO;rw[if_pos ha1];refine aP ?_ ?_<;>intro h
  ·refine aL ?_
   have hgz:=aF (c:=[aD 0,aD 0,aD 0]) hbl;have hxz:Ext A (List.set H1 H.length (some [aD 0,aD 0,aD 0])):=keepSet.ext hx1 hlA;generalize List.set H1 H.length (some [aD 0,aD 0,aD 0])=H2 at hgz hxz;refine bM ?_;exact⟨rfl,hxz,byO⟩
  ·simp at h
 have hdd:decide ((a:Int)+1>=(ws.length:Nat))=false:=decide_eq_false byO;have hdd2:decide ((ws.length:Int)<=(a:Nat)+1)=false:=decide_eq_false byO;rw[if_neg ha1];obtain⟨b2,o2,x2,i2,g2,e2⟩:=hd1.at (k:=a+1) byO;have hby2:=hd.byt (a+1);obtain⟨y,hy⟩:∃y,False\/wd ws (a+1)=y:=⟨_,.inr rfl⟩;rw[hy.resolve_left id]at e2 ⊢;replace hby2:y<=255:=by rw[<-hy.resolve_left id];exact hby2
 simp only[ap₀,Int.natCast_one]at i2;refine aP ?_ ?_<;>intro h
 ·simp at h
 clear h hdd hdd2;refine aL ?_;by_cases hn:256*x+y<1\/64000<256*x+y
 ·have hdd:(decide (256*(x:Int)+(y:Nat)-1<0) || decide (256*(x:Int)+(y:Nat)-1>=64000))=true:=by simp;omega
  rw[if_pos hn];refine aP ?_ ?_<;>intro h
  ·refine aL ?_
   have hgz:=aF (c:=[aD 0,aD 0,aD 0]) hbl;have hxz:Ext A (List.set H1 H.length (some [aD 0,aD 0,aD 0])):=keepSet.ext hx1 hlA;generalize List.set H1 H.length (some [aD 0,aD 0,aD 0])=H2 at hgz hxz;refine bM ?_;exact⟨rfl,hxz,byO⟩
  ·simp at h
 rw[if_neg hn];obtain⟨n,hnn,hnl,hni⟩:∃n:Nat,256*x+y-1=n/\n<64000/\256*(x:Int)+(y:Nat)-1=(n:Nat):=⟨_,rfl,byO,byO⟩;rw[hnn];rw[hni];clear hnn hni hn;have q1:(n:Int).tdiv 1600=((n/1600:Nat):Int):=by rw[Int.tdiv_eq_ediv_of_nonneg byO];omega
 have q2:(n:Int).tdiv 40=((n/40:Nat):Int):=by rw[Int.tdiv_eq_ediv_of_nonneg byO];omega
 have q3:((n/40:Nat):Int).tmod 40=((n/40%40:Nat):Int):=by rw[Int.tmod_eq_emod_of_nonneg byO];omega
 have q4:(n:Int).tmod 40=((n%40:Nat):Int):=by rw[Int.tmod_eq_emod_of_nonneg byO];omega
 have r1:n/1600<=39:=byO;have r2:n/40%40<=39:=byO;have r3:n%40<=39:=byO;have r4:n/40<=1600:=byO;generalize n/1600=u1 at q1 r1;generalize n/40%40=u2 at q3 r2;generalize n%40=u3 at q4 r3;generalize n/40=n4 at q2 q3 r4;have hdd1:decide ((n:Int)<0)=false:=decide_eq_false byO;have hdd2:decide ((n:Int)>=64000)=false:=decide_eq_false byO;have hdd3:decide ((64000:Int)<=(n:Nat))=false:=decide_eq_false byO;refine aP ?_ ?_<;>intro h
 ·exfalso;first|(simp at h;done)|cases h
 clear h hdd1 hdd2 hdd3;refine aL ?_;have hmv:=hd1.move (a':=a+2) hgd byO;have hgz:Heap.get (List.set H1 db (some [.slice aw ws.length cw,aD (a+2),ov])) H.length=some [aD 0,aD 0,aD 0]:=by rw[aH byO];exact hgb
 have hlz:=Heap.get_lt hgz;have hfin:=hmv.keep (c:=H.length) hne3 hlA hgz (keepSet (x:=some [aD u1,aD u2,aD u3]));have hgy:=aF (c:=[aD u1,aD u2,aD u3]) hlz;change eP _ _ .ret _ (List.set (List.set H1 db (some [.slice aw ws.length cw,aD (a+2),ov])) H.length (some [aD u1,aD u2,aD u3]));generalize List.set (List.set H1 db (some [.slice aw ws.length cw,aD (a+2),ov])) H.length (some [aD u1,aD u2,aD u3])=H2 at hfin hgy;refine bM ?_;exact⟨rfl,hfin,⟨r1,r2,r3⟩,byO⟩
def Ko(a:Int)(b:Bool):Option (Value×Heap)->Bool
 | some (.tuple cs,_)=>match cs.toList with
  | [.int .u8 x,.bool y]=>x==a&&y==b
  | _=>false
 | _=>false
theorem Fw{a:Int}{b:Bool}{r:Option (Value×Heap)}(h:Ko a b r=true):r.map (·.1)=some (.tuple [Value.int .u8 a,Value.bool b].toArray):=by
 match r,h with
 | some (.tuple cs,H),h=>
  simp only[Ko]at h;split at h
  ·rename_i x y e
   simp only[ac₀,beq_iff_eq]at h;obtain⟨rfl,rfl⟩:=h;have:cs=[Value.int .u8 x,Value.bool y].toArray:=by rw[<-e]
   rw[this];rfl
  ·cases h
def isU(n:Int):Option (Value×Heap)->Bool
 | some (.int .u8 m,_)=>m==n
 | _=>false
theorem Kp{n:Int}{r:Option (Value×Heap)}(h:isU n r=true):r.map (·.1)=some (.int .u8 n):=by
 match r,h with
 | some (.int .u8 m,_),h=>
  have h':m=n:=by simpa[isU]using h
  rw[h'];rfl
theorem Q1:(List.range 4).all (fun s=>(List.range 40).all fun k=>[false,true].all fun b=>Ko (if hZ b s k=128 then 0 else hZ b s k) (hZ b s k != 128) ((run cp 4).ret 0 183 [.bool b,.int .i64 (s:Nat),.int .i64 (k:Nat)] []))=true:=by kernel_rfl
theorem SU:(List.range 40).all (fun k=>isU (jT k:Nat) ((run cp 4).ret 0 185 [.int .i64 (k:Nat)] []))=true:=by kernel_rfl
theorem Q0{b:Bool}{s k:Nat}(hs:s<4)(hk:k<40)(hlo:lo<=H.length):Ev cp lo 183 [.bool b,aD s,aD k] H (fun v H'=>v=.tuple #[.int .u8 (if hZ b s k=128 then 0 else hZ b s k:Nat),.bool (hZ b s k != 128)]/\Ext H H'):=by
 have h:=List.all_eq_true.1 (List.all_eq_true.1 (List.all_eq_true.1 Q1 s (List.mem_range.2 hs)) k (List.mem_range.2 hk)) b (by cases b<;>simp);have e:=Fw h;have e2:(if hZ b s k=128 then(0:Int) else(hZ b s k:Nat))=((if hZ b s k=128 then 0 else hZ b s k:Nat):Int):=by split<;>rfl
 rw[e2]at e;exact xV kX (n:=4) rfl e rfl hlo
theorem SS{k:Nat}(hk:k<40)(hlo:lo<=H.length):Ev cp lo 185 [aD k] H (fun v H'=>v=.int .u8 (jT k:Nat)/\Ext H H'):=
 lO kX (n:=4) (v:=.int .u8 (jT k:Nat)) rfl (Kp (List.all_eq_true.1 SU k (List.mem_range.2 hk))) rfl hlo
end
def u3(u:Nat×Nat×Nat):Nat->Nat
 | 0=>u.1
 | 1=>u.2.1
 | _=>u.2.2
def vK(lower:Bool)(u:Nat×Nat×Nat)(s:Nat×Bool×List UInt8):Nat->Nat ⊕ (Nat×Bool×List UInt8)
 | 0=>.inr s
 | k+1=>match vK lower u s k with
  | .inl e=>.inl e
  | .inr s'=>iv lower s' (u3 u k)
theorem Py(lower:Bool)(u:Nat×Nat×Nat)(s:Nat×Bool×List UInt8):vK lower u s 3=uq lower s u:=by
 simp only[vK,uq,u3];cases iv lower s u.1 with
 | inl e=>rfl
 | inr s1=>rfl
theorem yU{lower:Bool}{u:Nat×Nat×Nat}{s:Nat×Bool×List UInt8}{e k:Nat}(h:vK lower u s k=.inl e):∀m,vK lower u s (k+m)=.inl e
 | 0=>h
 | m+1=>by
  have:=yU h m;show(match vK lower u s (k+m)with | .inl e=>Sum.inl e | .inr s'=>iv lower s' (u3 u (k+m)))=_;rw[this]
theorem yd{b:Bool}{s k:Nat}(hk:k<40):hZ b s k<=128:=by
 unfold hZ;repeat' split
 all_goals omega
section
variable {A H:Heap}{db:Nat}{wv:Value}{ws:List Nat}{a:Nat}{out:List UInt8}{lo:Nat}
open XMDc
theorem Jz{lower:Bool}{f:Nat}(hd:DcM A H db wv ws a out)(hlo:lo<=A.length)(hB:out.length+2*(ws.length-a)<=16400)(hf:ws.length-a<f):Ev cp lo 139 [ptr db,.bool lower] H (fun r H'=>vy A db wv ws r H' (kO ws lower f a (0,false,out))):=by
 refine stG rfl rfl ?_;unfold IU;simp only[kB,aB];refine aL ?_;generalize hR:kO ws lower f a (0,false,out)=R;refine aY (fun m S H'=>∃(a:Nat) (f:Nat) (s:Nat×Bool×List UInt8),((DcM A H' db wv ws a s.2.2/\s.1<=3)/\(s.2.2.length+2*(ws.length-a)<=16400/\ws.length-a<f/\m=ws.length-a))/\(False\/kO ws lower f a s=R)/\∃(z:Nat->Value),S=[ptr db,.bool lower,z 2,aD s.1,.bool s.2.1,z 5,z 6,z 7,z 8,z 9,z 10,z 11,z 12,z 13,z 14,z 15,z 16,z 17,z 18,z 19,z 20,z 21]) (ws.length-a) ⟨a,f,(0,false,out),⟨⟨hd,Nat.zero_le _⟩,hB,hf,rfl⟩,.inr hR,aR rfl⟩ ?_;clear hR hf hB hd;rintro m S H1 ⟨a,f,⟨set,up,out⟩,⟨⟨hd,hset⟩,hB,hf,hm⟩,hR,z,rfl⟩;simp only at hd hset hB hR ⊢;obtain⟨g,rfl⟩:∃g,f=g+1:=⟨f-1,byO⟩;replace hm:m<=ws.length-a/\ws.length-a<=m:=byO;have hlA:=hd.ext.1;have hR2:False\/(match jd ws a with | .inl e=>.inl e | .inr none=>.inr (a+1,out) | .inr (some u)=>(match uq lower (set,up,out) u with | .inl e=>.inl e | .inr s'=>kO ws lower g (a+2) s'))=R:=hR;clear hR;(try simp only[aB]);refine dh ?_;refine aA (JK hd hlo) ?_;intro r H2 hr;clear hd;cases ht:jd ws a with
 | inl e=>
  rw[ht]at hr hR2;obtain⟨rfl,hx,he⟩:=hr;replace hR2:=hR2.resolve_left id;simp only at hR2;subst hR2;have hlx:=hx.1;have hde:decide ((e:Int)=0)=false:=decide_eq_false byO;refine aL ?_;refine aP ?_ ?_<;>intro h
  ·clear h
   refine aL ?_;refine bM ?_;exact⟨rfl,hx.trans (Ext.app _ _),he⟩
  ·exfalso;simp at h;exact he h
 | inr o=>
  cases o with
  | none=>
   rw[ht]at hr hR2;obtain⟨rfl,hd⟩:=hr;replace hR2:=hR2.resolve_left id;simp only at hR2;subst hR2;have hlx:=hd.ext.1;refine aL ?_;refine aP ?_ ?_<;>intro h
   ·clear h
    refine aL ?_;refine bM ?_;exact⟨rfl,hd.mono (Ext.app _ _)⟩
   ·simp at h
  | some u=>
   rw[ht]at hr hR2;obtain⟨rfl,hd,⟨hu1,hu2,hu3⟩,hal⟩:=hr;have hub:∀k,u3 u k<=39:=by
    intro k;unfold u3;split<;>assumption
   simp only at hR2;rw[<-Py]at hR2;have hlx:=hd.ext.1;refine aL ?_;refine aP ?_ ?_<;>intro h
   ·simp at h
   clear h;have hdm:=hd.mono (H':=H2++[some [aD u.1,aD u.2.1,aD u.2.2]]) (Ext.app _ _);change wpS cp lo _ _ _ (H2++[some [aD u.1,aD u.2.1,aD u.2.2]]);have hgv:Heap.get (H2++[some [aD u.1,aD u.2.1,aD u.2.2]]) H2.length=some [aD u.1,aD u.2.1,aD u.2.2]:=aK;generalize H2++[some [aD u.1,aD u.2.1,aD u.2.2]]=H3 at hdm hgv;obtain⟨X,hX,hvi⟩:∃X:List Value,(False\/X=[aD u.1,aD u.2.1,aD u.2.2])/\(False\/∀k,k<3->X[k]?=some (aD (u3 u k))):=⟨_,.inr rfl,.inr (by
    intro k hk;have:k=0\/k=1\/k=2:=byO;rcases this with rfl|rfl|rfl<;>rfl)⟩
   refine aL ?_;clear hgv hu1 hu2 hu3 hd;refine aa (fun k S H'=>∃s:Nat×Bool×List UInt8,((False\/vK lower u (set,up,out) k=.inr s)/\(DcM A H' db wv ws (a+2) s.2.2/\s.1<=3)/\s.2.2.length<=out.length+k)/\∃(z:Nat->Value),S=[ptr db,.bool lower,z 2,aD s.1,.bool s.2.1,z 5,z 6,z 7,z 8,z 9,z 10,z 11,z 12,z 13,z 14,.agg X.toArray,.int .i64 (k:Nat),z 17,z 18,z 19,z 20,z 21]) 3 ⟨(set,up,out),⟨.inr rfl,⟨hdm,hset⟩,Nat.le_refl _⟩,aR (by rw[hX.resolve_left id];rfl)⟩ ?_ ?_ ?_
   ·rintro k S H' hk ⟨s,h1,z,rfl⟩
    exact⟨decide ((k:Int)<3),by simp(disch:=try exact dO)only[evB,xtr,Nat.reduceAdd,Nat.reduceBEq,Int.reduceToNat, *],by simp;omega⟩
   ·rintro k S H4 hk ⟨⟨st,up',out'⟩,⟨hv,⟨hd4,hst⟩,hol⟩,z,rfl⟩
    simp only at hd4 hst hol ⊢;have hxk:=hvi.resolve_left id k hk;have hvv:=hub k;have hv1:False\/vK lower u (set,up,out) (k+1)=iv lower (st,up',out') (u3 u k):=by
     right;show(match vK lower u (set,up,out) k with | .inl e=>Sum.inl e | .inr s'=>iv lower s' (u3 u k))=_;rw[hv.resolve_left id]
    clear hv hdm hub;generalize u3 u k=x at hxk hvv hv1;obtain⟨ov,b,⟨hg,hne⟩,ho⟩:=hd4.g;have hlx:=hd4.ext.1;have hdA:=hd4.dbA;have hdl:=Heap.get_lt hg;clear ho;have hvS:iv lower (st,up',out') x=if st=0/\x<=2 then .inr (x+1,up',out') else if st=2/\x=30/\up'=false then .inr (0,true,out') else if hZ lower st x=128 then .inl 22 else .inr (0,false,out'++[UInt8.ofNat (if up' then hZ lower st x+128 else hZ lower st x)]):=rfl
    rw[hvS]at hv1;clear hvS;refine aL ?_;by_cases hc1:st=0/\x<=2
    ·obtain⟨c1,c2⟩:=hc1
     have e1:decide ((st:Int)=0)=true:=decide_eq_true byO;have e2:decide ((x:Int)<=2)=true:=decide_eq_true byO;rw[if_pos ⟨c1,c2⟩]at hv1;replace c1:st<=0:=byO;refine aP ?_ ?_<;>intro h
     ·clear h e1 e2
      refine aL ?_;exact⟨(x+1,up',out'),⟨hv1,⟨hd4,by simp only;omega⟩,by simp only;omega⟩,aR ncM⟩
     ·cases h
    rw[if_neg hc1]at hv1;have e1:(decide ((st:Int)=0)&&decide ((x:Int)<=2))=false:=by
     simp only[Bool.and_eq_false_iff,ai₀];omega
    refine aP ?_ ?_<;>intro h
    ·exfalso;first|(rw[e1]at h;cases h)|cases h
    clear h e1 hc1;(try simp only[aB]);by_cases hc2:st=2/\x=30/\up'=false
    ·obtain⟨c1,c2,rfl⟩:=hc2
     have e1:decide ((st:Int)=2)=true:=decide_eq_true byO;have e2:decide ((x:Int)=30)=true:=decide_eq_true byO;rw[if_pos ⟨c1,c2,rfl⟩]at hv1;replace c1:st<=2/\2<=st:=byO;replace c2:x<=30/\30<=x:=byO;refine aP ?_ ?_<;>intro h
     ·clear h e1 e2
      refine aL ?_;exact⟨(0,true,out'),⟨hv1,⟨hd4,by simp only;omega⟩,by simp only;omega⟩,aR ncM⟩
     ·cases h
    rw[if_neg hc2]at hv1;have e1:((decide ((st:Int)=2)&&decide ((x:Int)=30))&&!up')=false:=by
     cases up' with
     | true=>simp
     | false=>simp only[Bool.not_false,Bool.and_true,Bool.and_eq_false_iff,ai₀];simp at hc2;omega
    refine aP ?_ ?_<;>intro h
    ·exfalso;first|(rw[e1]at h;cases h)|cases h
    clear h e1 hc2;(try simp only[aB]);refine dh ?_;refine aA (Q0 (lo:=lo) (b:=lower) (s:=st) (k:=x) byO byO byO) ?_;rintro r H5 ⟨rfl,hx5⟩;have hcl:=yd (b:=lower) (s:=st) (k:=x) byO;have hd5:=hd4.mono hx5;have hg5:=hx5.get hg;have hl5:=hx5.1;generalize hZ lower st x=c at hcl hv1 ⊢;clear hd4 hg;by_cases hc:c=128
    ·subst hc
     simp only[if_true]at hv1;have hfin:R=.inl 22:=by
      have h3:=yU (hv1.resolve_left id) (2-k);rw[show k+1+(2-k)=3 by omega]at h3;have h2:=hR2.resolve_left id;rw[h3]at h2;exact h2.symm
     subst hfin;clear hv1 hR2;refine aL ?_;refine aP ?_ ?_<;>intro h
     ·refine aL ?_
      refine bM ?_;exact⟨rfl,hd5.ext,byO⟩
     ·simp at h
    rw[if_neg hc]at hv1;have hb:(c != 128)=true:=by simpa using hc
    simp only[if_neg hc,hb];clear hb;replace hc:c<=127:=byO;refine aL ?_;refine aP ?_ ?_<;>intro h
    ·simp at h
    clear h;(try simp only[aB]);refine lM (fun S' H'=>H5=H'/\∃(z:Nat->Value),S'=[ptr db,.bool lower,z 2,aD st,.bool up',z 5,z 6,z 7,z 8,.int .u8 ((if up' then c+128 else c:Nat):Int),z 10,z 11,z 12,z 13,z 14,.agg X.toArray,.int .i64 (k:Nat),z 17,z 18,z 19,z 20,z 21]) ?_ ?_
    ·cases up' with
     | true=>
      refine aP ?_ ?_<;>intro h
      ·clear h
       refine aL ?_;exact⟨by trivial,aR ncM⟩
      ·cases h
     | false=>
      refine aP ?_ ?_<;>intro h
      ·cases h
      ·clear h
       (try simp only[aB]);exact⟨by trivial,aR ncM⟩
    rintro S' H5' ⟨rfl,z,rfl⟩;obtain⟨y,hy,hyl⟩:∃y,(False\/(if up' then c+128 else c:Nat)=y)/\y<=255:=⟨_,.inr rfl,by split<;>omega⟩;rw[hy.resolve_left id]at hv1 ⊢;refine aL ?_;rw[<-de (n:=y) byO];refine dh ?_;refine qB (n:=1) (l:=[UInt8.ofNat y]) hd5 hg5 hlo rfl byO byO ?_;intro ad m H6 hg6 hl6 hd6;refine aL ?_;exact⟨(0,false,out'++[UInt8.ofNat y]),⟨hv1,⟨hd6,Nat.zero_le _⟩,by simp;omega⟩,aR ncM⟩
   ·rintro S H4 ⟨s,⟨hv,⟨hd4,hst⟩,hol⟩,z,rfl⟩
    have h2:=hR2.resolve_left id;rw[hv.resolve_left id]at h2;simp only at h2;(try simp only[aB]);exact⟨ws.length-(a+2),byO,a+2,g,s,⟨⟨hd4,hst⟩,byO,byO,rfl⟩,.inr h2,aR rfl⟩
end
def xK(u:Nat×Nat×Nat)(k:Nat):List UInt8:=(List.range k).map fun i=>UInt8.ofNat (jT (u3 u i))
theorem AJ(u:Nat×Nat×Nat)(k:Nat):xK u (k+1)=xK u k++[UInt8.ofNat (jT (u3 u k))]:=by
 unfold xK;rw[List.range_succ,List.map_append];rfl
theorem QH(u:Nat×Nat×Nat):xK u 3=[UInt8.ofNat (jT u.1),UInt8.ofNat (jT u.2.1),UInt8.ofNat (jT u.2.2)]:=rfl
theorem uv(u:Nat×Nat×Nat)(k:Nat):(xK u k).length=k:=by simp[xK]
theorem AK{k:Nat}(hk:k<40):jT k<=127:=by
 unfold jT;repeat' split
 all_goals omega
section
variable {A H:Heap}{db:Nat}{wv:Value}{ws:List Nat}{a:Nat}{out:List UInt8}{lo:Nat}
open XMDc
theorem QC{f:Nat}(hd:DcM A H db wv ws a out)(hlo:lo<=A.length)(hB:out.length+2*(ws.length-a)<=16400)(hf:ws.length-a<f):Ev cp lo 141 [ptr db] H (fun r H'=>vy A db wv ws r H' (lK ws f a out)):=by
 refine stG rfl rfl ?_;unfold IW;simp only[kB,aB];refine aL ?_;generalize hR:lK ws f a out=R;refine aY (fun m S H'=>∃(a:Nat) (f:Nat) (out:List UInt8),((DcM A H' db wv ws a out)/\(out.length+2*(ws.length-a)<=16400/\ws.length-a<f/\m=ws.length-a))/\(False\/lK ws f a out=R)/\∃(z:Nat->Value),S=[ptr db,z 1,z 2,z 3,z 4,z 5,z 6,z 7,z 8,z 9,z 10,z 11,z 12,z 13,z 14,z 15,z 16]) (ws.length-a) ⟨a,f,out,⟨hd,hB,hf,rfl⟩,.inr hR,aR rfl⟩ ?_;clear hR hf hB hd;rintro m S H1 ⟨a,f,out,⟨hd,hB,hf,hm⟩,hR,z,rfl⟩;obtain⟨g,rfl⟩:∃g,f=g+1:=⟨f-1,byO⟩;replace hm:m<=ws.length-a/\ws.length-a<=m:=byO;have hlA:=hd.ext.1;have hR2:False\/(match jd ws a with | .inl e=>.inl e | .inr none=>.inr (a+1,out) | .inr (some u)=>lK ws g (a+2) (out++[UInt8.ofNat (jT u.1),UInt8.ofNat (jT u.2.1),UInt8.ofNat (jT u.2.2)]))=R:=hR;clear hR;(try simp only[aB]);refine dh ?_;refine aA (JK hd hlo) ?_;intro r H2 hr;clear hd;cases ht:jd ws a with
 | inl e=>
  rw[ht]at hr hR2;obtain⟨rfl,hx,he⟩:=hr;replace hR2:=hR2.resolve_left id;simp only at hR2;subst hR2;have hlx:=hx.1;have hde:decide ((e:Int)=0)=false:=decide_eq_false byO;refine aL ?_;refine aP ?_ ?_<;>intro h
  ·clear h
   refine aL ?_;refine bM ?_;exact⟨rfl,hx.trans (Ext.app _ _),he⟩
  ·exfalso;simp at h;exact he h
 | inr o=>
  cases o with
  | none=>
   rw[ht]at hr hR2;obtain⟨rfl,hd⟩:=hr;replace hR2:=hR2.resolve_left id;simp only at hR2;subst hR2;have hlx:=hd.ext.1;refine aL ?_;refine aP ?_ ?_<;>intro h
   ·clear h
    refine aL ?_;refine bM ?_;exact⟨rfl,hd.mono (Ext.app _ _)⟩
   ·simp at h
  | some u=>
   rw[ht]at hr hR2;obtain⟨rfl,hd,⟨hu1,hu2,hu3⟩,hal⟩:=hr;have hub:∀k,u3 u k<=39:=by
    intro k;unfold u3;split<;>assumption
   simp only at hR2;rw[<-QH]at hR2;have hlx:=hd.ext.1;refine aL ?_;refine aP ?_ ?_<;>intro h
   ·simp at h
   clear h;have hdm:=hd.mono (H':=H2++[some [aD u.1,aD u.2.1,aD u.2.2]]) (Ext.app _ _);change wpS cp lo _ _ _ (H2++[some [aD u.1,aD u.2.1,aD u.2.2]]);have hgv:Heap.get (H2++[some [aD u.1,aD u.2.1,aD u.2.2]]) H2.length=some [aD u.1,aD u.2.1,aD u.2.2]:=aK;generalize H2++[some [aD u.1,aD u.2.1,aD u.2.2]]=H3 at hdm hgv;obtain⟨X,hX,hvi⟩:∃X:List Value,(False\/X=[aD u.1,aD u.2.1,aD u.2.2])/\(False\/∀k,k<3->X[k]?=some (aD (u3 u k))):=⟨_,.inr rfl,.inr (by
    intro k hk;have:k=0\/k=1\/k=2:=byO;rcases this with rfl|rfl|rfl<;>rfl)⟩
   refine aL ?_;clear hgv hu1 hu2 hu3 hd;refine aa (fun k S H'=>(DcM A H' db wv ws (a+2) (out++xK u k))/\∃(z:Nat->Value),S=[ptr db,z 1,z 2,z 3,z 4,z 5,z 6,z 7,z 8,z 9,.agg X.toArray,.int .i64 (k:Nat),z 12,z 13,z 14,z 15,z 16]) 3 ⟨by simpa[xK]using hdm,aR (by rw[hX.resolve_left id];rfl)⟩ ?_ ?_ ?_
   ·rintro k S H' hk ⟨h1,z,rfl⟩
    exact⟨decide ((k:Int)<3),by simp(disch:=try exact dO)only[evB,xtr,Nat.reduceAdd,Nat.reduceBEq,Int.reduceToNat, *],by simp;omega⟩
   ·rintro k S H4 hk ⟨hd4,z,rfl⟩
    have hxk:=hvi.resolve_left id k hk;have hvv:=hub k;have hkl:=uv u k;rw[AJ,<-List.append_assoc];generalize u3 u k=x at hxk hvv ⊢;clear hdm hub;have hol:(out++xK u k).length<=out.length+3:=by simp[hkl];omega
    generalize out++xK u k=out' at hd4 hol ⊢;obtain⟨ov,b,⟨hg,hne⟩,ho⟩:=hd4.g;have hlx:=hd4.ext.1;have hdA:=hd4.dbA;have hdl:=Heap.get_lt hg;clear ho hkl;refine aL ?_;refine dh ?_;refine aN (SS (k:=x) byO (Nat.le_refl _)) ?_;rintro r H5 ⟨rfl,hx5⟩;have hcl:=AK (k:=x) byO;have hd5:=hd4.mono hx5;have hg5:=hx5.get hg;generalize jT x=y at hcl ⊢;refine aL ?_;rw[<-de (n:=y) byO];refine dh ?_;refine qB (n:=1) (l:=[UInt8.ofNat y]) hd5 hg5 hlo rfl byO byO ?_;intro ad m H6 hg6 hl6 hd6;refine aL ?_;exact⟨hd6,aR ncM⟩
   ·rintro S H4 ⟨hd4,z,rfl⟩
    have hl3:=uv u 3;generalize xK u 3=L at hd4 hl3 hR2;(try simp only[aB]);exact⟨ws.length-(a+2),byO,a+2,g,out++L,⟨hd4,by simp;omega,byO,rfl⟩,hR2,aR rfl⟩
theorem MF(hd:DcM A H db wv ws a out)(hlo:lo<=A.length):Ev cp lo 184 [ptr db] H (fun r H'=>(ws.length<=a/\r=.tuple #[.int .i64 0,.bool false]/\Ext A H')\/(a<ws.length/\r=.tuple #[aD (unm ws a),.bool true]/\DcM A H' db wv ws (a+1) out)):=by
 obtain⟨ov,b,⟨hg,hne⟩,ho⟩:=hd.g;have hlen:=hd.len;have hle:=hd.le;have hdA:=hd.dbA;have hdl:=Heap.get_lt hg;obtain⟨aw,cw,ew⟩:=hd.w.len;subst ew;have hlA:=hd.ext.1;have hx0:=hd.ext;refine stG rfl rfl ?_;unfold Is;simp only[kB,aB];refine aL ?_;by_cases ha:ws.length<=a
 ·have hdd:decide ((a:Int)>=(ws.length:Nat))=true:=decide_eq_true byO
  have hdd2:decide ((ws.length:Int)<=(a:Nat))=true:=decide_eq_true byO;refine aP ?_ ?_<;>intro h
  ·refine aL ?_
   refine bM ?_;exact .inl ⟨ha,rfl,hx0⟩
  ·simp at h
 have hdd:decide ((a:Int)>=(ws.length:Nat))=false:=decide_eq_false byO;have hdd2:decide ((ws.length:Int)<=(a:Nat))=false:=decide_eq_false byO;obtain⟨b1,o1,x1,i1,g1,e1⟩:=hd.at (k:=a) byO;have hby:=hd.byt a;have hun:unm ws a=(wd ws a+256-msk a)%256:=rfl;rw[hun];clear hun;obtain⟨x,hx⟩:∃x,False\/wd ws a=x:=⟨_,.inr rfl⟩;rw[hx.resolve_left id]at e1 ⊢;replace hby:x<=255:=by rw[<-hx.resolve_left id];exact hby
 have hmv:=hd.move (a':=a+1) hg byO;have hms:msk a<=255:=by unfold msk;omega
 refine aP ?_ ?_<;>intro h
 ·simp at h
 clear h hdd hdd2;(try simp only[aB]);refine dh ?_;refine aN (OS (k:=a) byO) ?_;rintro r H1 ⟨rfl,rfl⟩;generalize msk a=ms at hms ⊢;have em:((x:Int)-(ms:Nat)+256).tmod 256=(((x+256-ms)%256:Nat):Int):=by rw[Int.tmod_eq_emod_of_nonneg byO];omega
 have hy:(x+256-ms)%256<=255:=byO;generalize (x+256-ms)%256=y at em hy ⊢;refine aL ?_;refine bM ?_;exact .inr ⟨byO,rfl,hmv⟩
end
end Go.Proofs.YtmnlgdpdgjbfgaaGreat
