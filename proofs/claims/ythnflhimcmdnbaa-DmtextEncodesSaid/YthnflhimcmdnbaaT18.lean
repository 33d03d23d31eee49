/- Dmtext: what Decode computes, in plain terms. Errors: 10 (cut off), 22 (no such mode). Dmtext: the decoder in the heap; three values; one masked codeword. -/
import Derived.Test.YthnflhimcmdnbaaT15
import Derived.Test.YthnflhimcmdnbaaT17
set_option linter.unusedVariables false
set_option linter.unusedSimpArgs false
set_option linter.unusedSectionVars false
namespace Go.Proofs.Ythnflhimcmdnbaa
open Go.Abs
set_option linter.unusedSimpArgs false
set_option linter.unusedVariables false
set_option maxRecDepth 20000
abbrev Rd:=Nat ⊕ (Nat×List UInt8)
abbrev wd(ws:List Nat)(i:Nat):Nat:=ws.getD i 0
def upS(ws:List Nat)(a:Nat)(out:List UInt8):Rd:=
 if ws.length≤a then .inl 10 else if wd ws a<1∨128<wd ws a then .inl 22 else .inr (a+1,out++[UInt8.ofNat (wd ws a+127)])
def triS(ws:List Nat)(a:Nat):Nat ⊕ Option (Nat×Nat×Nat):=
 if ws.length≤a then .inl 10 else if wd ws a=254 then .inr none else if ws.length≤a+1 then .inl 10
 else if 256*wd ws a+wd ws (a+1)<1∨64000<256*wd ws a+wd ws (a+1) then .inl 22
 else .inr (some ((256*wd ws a+wd ws (a+1)-1)/1600,(256*wd ws a+wd ws (a+1)-1)/40%40,(256*wd ws a+wd ws (a+1)-1)%40))
def chrS(lower:Bool)(set v:Nat):Nat:=
 if set=0∧v=3 then 32 else if set=0∧4≤v∧v≤13 then 44+v else if set=0∧14≤v then(if lower then 83+v else 51+v)
 else if set=1∧v≤31 then v else if set=2∧v≤14 then 33+v else if set=2∧v≤21 then 43+v else if set=2∧v≤26 then 69+v
 else if set=3∧v≤31 then(if lower=true∧1≤v∧v≤26 then 64+v else 96+v) else 128
def valS(lower:Bool)(s:Nat×Bool×List UInt8)(v:Nat):Nat ⊕ (Nat×Bool×List UInt8):=
 if s.1=0∧v≤2 then .inr (v+1,s.2.1,s.2.2)
 else if s.1=2∧v=30∧s.2.1=false then .inr (0,true,s.2.2)
 else if chrS lower s.1 v=128 then .inl 22
 else .inr (0,false,s.2.2++[UInt8.ofNat (if s.2.1 then chrS lower s.1 v+128 else chrS lower s.1 v)])
def val3(lower:Bool)(s:Nat×Bool×List UInt8)(u:Nat×Nat×Nat):Nat ⊕ (Nat×Bool×List UInt8):=match valS lower s u.1 with
 | .inl e=>.inl e
 | .inr s1=>match valS lower s1 u.2.1 with
  | .inl e=>.inl e
  | .inr s2=>valS lower s2 u.2.2
def valsS(ws:List Nat)(lower:Bool):Nat→Nat→Nat×Bool×List UInt8→Rd
 | 0,_,_=>.inl 10
 | f+1,a,s=>match triS ws a with
  | .inl e=>.inl e
  | .inr none=>.inr (a+1,s.2.2)
  | .inr (some u)=>match val3 lower s u with
   | .inl e=>.inl e
   | .inr s'=>valsS ws lower f (a+2) s'
def xchr(v:Nat):Nat:=if 14≤v then 51+v else if 4≤v then 44+v else if v=0 then 13 else if v=1 then 42 else if v=2 then 62 else 32
def x12S'(ws:List Nat):Nat→Nat→List UInt8→Rd
 | 0,_,_=>.inl 10
 | f+1,a,out=>match triS ws a with
  | .inl e=>.inl e
  | .inr none=>.inr (a+1,out)
  | .inr (some u)=>x12S' ws f (a+2) (out++[UInt8.ofNat (xchr u.1),UInt8.ofNat (xchr u.2.1),UInt8.ofNat (xchr u.2.2)])
def sixS(ws:List Nat)(a bit:Nat):Nat:=(256*wd ws (a+bit/8)+if bit/8<(bit+5)/8 then wd ws (a+(bit+5)/8) else 0)/2^(10-bit%8)%64
def ediD(ws:List Nat)(a:Nat):Nat→Nat→List UInt8→Rd
 | 0,_,_=>.inl 10
 | f+1,bit,out=>if ws.length≤a+(bit+5)/8 then .inl 10
  else if sixS ws a bit=31 then(if wd ws (a+(bit+5)/8)%2^((8-(bit+6)%8)%8)≠0 then .inl 22 else .inr (a+(bit+5)/8+1,out))
  else ediD ws a f (bit+6) (out++[UInt8.ofNat (if sixS ws a bit<32 then sixS ws a bit+64 else sixS ws a bit)])
def unm(ws:List Nat)(a:Nat):Nat:=(wd ws a+256-msk a)%256
def runS(ws:List Nat):Nat→Nat→List UInt8→Rd
 | 0,a,out=>.inr (a,out)
 | n+1,a,out=>if ws.length≤a then .inl 10 else runS ws n (a+1) (out++[UInt8.ofNat (unm ws a)])
def binD(ws:List Nat)(a:Nat)(out:List UInt8):Rd:=
 if ws.length≤a then .inl 10 else if unm ws a=0 then .inl 22
 else if unm ws a<250 then runS ws (unm ws a) (a+1) out
 else if ws.length≤a+1 then .inl 10 else if 250≤unm ws (a+1) then .inl 22
 else runS ws (250*(unm ws a-249)+unm ws (a+1)) (a+2) out
def ascD(ws:List Nat)(w a:Nat)(out:List UInt8):Rd:=
 if 1≤w∧w≤128 then .inr (a,out++[UInt8.ofNat (w-1)])
 else if 130≤w∧w<230 then .inr (a,out++[UInt8.ofNat (48+(w-130)/10),UInt8.ofNat (48+(w-130)%10)])
 else if w=235 then upS ws a out else if w=230 then valsS ws false (ws.length+1) a (0,false,out) else if w=239 then valsS ws true (ws.length+1) a (0,false,out)
 else if w=231 then binD ws a out else if w=238 then x12S' ws (ws.length+1) a out else if w=240 then ediD ws a (2*ws.length+2) 0 out else .inl 22
def decL(ws:List Nat):Nat→Nat→List UInt8→Nat ⊕ List UInt8
 | 0,_,out=>.inr out
 | f+1,a,out=>if ws.length≤a then .inr out else if wd ws a=129 then .inr out else match ascD ws (wd ws a) (a+1) out with
  | .inl e=>.inl e
  | .inr (a',out')=>decL ws f a' out'
def decS(ws:List Nat):Nat ⊕ List UInt8:=decL ws (ws.length+1) 0 []
end Go.Proofs.Ythnflhimcmdnbaa
namespace Go.Proofs.Ythnflhimcmdnbaa
open Go.Abs
set_option linter.unusedSimpArgs false
set_option linter.unusedVariables false
set_option maxRecDepth 20000
abbrev uU(l:List UInt8):List Value:=l.map encU
structure Dc (A H:Heap)(db:Nat)(wv:Value)(ws:List Nat)(a:Nat)(out:List UInt8):Prop where
 ext:Ext A H
 w:SlN A wv ws
 g:∃ov b,(H.get db=some [wv,encN a,ov]∧b≠db)∧Own A.length 1 H ov b (uU out)
 dbA:A.length≤db
 len:ws.length≤8192
 byt:∀k,ws.getD k 0≤255
 le:a≤ws.length
 big:out.length≤20000
theorem encU_of{n:Nat}(h:n<256):encU (UInt8.ofNat n)=.int .u8 (n:Nat):=by
 unfold encU
 rw[UInt8.toNat_ofNat_of_lt' h]
theorem own_cast{lo b:Nat}{H:Heap}{v:Value}{X:List Value}(h:Own lo 1 H v b X):∃ad n,v=.slice ad n n:=by
 obtain⟨ad,n,e,_⟩:=h.len (by omega)
 exact⟨ad,n,e⟩
theorem oneU:∀l:List UInt8,oneCells (uU l)=true
 | []=>rfl
 | x::l=>by simp[uU,oneCells,Value.oneCell']
section
variable {A H:Heap}{db:Nat}{wv:Value}{ws:List Nat}{a:Nat}{out:List UInt8}{lo:Nat}
theorem Dc.mono{H':Heap}(h:Dc A H db wv ws a out)(e:Ext H H'):Dc A H' db wv ws a out:=by
 obtain⟨ov,b,⟨g1,g2⟩,g3⟩:=h.g
 exact⟨h.ext.trans e,h.w,⟨ov,b,⟨e.get g1,g2⟩,g3.mono e⟩,h.dbA,h.len,h.byt,h.le,h.big⟩
theorem Dc.keep{H':Heap}{c n:Nat}{Y:List Value}(h:Dc A H db wv ws a out)(hc:c≠db)(hA:A.length≤c)(hX:H.get c=some (encN n::Y))(hk:Keep c H H'):Dc A H' db wv ws a out:=by
 obtain⟨ov,b,⟨g1,g2⟩,g3⟩:=h.g
 refine⟨hk.ext h.ext hA,h.w,?_,h.dbA,h.len,h.byt,h.le,h.big⟩
 obtain⟨h1,⟨h2,h3⟩|⟨m,h2,h3,h4,h5⟩⟩:=g3
 ·exact⟨ov,db+1,⟨hk.get g1 (fun e=>hc e.symm),by omega⟩,by have:=h.dbA;omega,.inl ⟨h2,h3⟩⟩
 ·have hbc:b≠c:=by
   rintro rfl
   rw[hX]at h5
   match out,h5 with
   | [],h5=>simp at h5
   | x::out,h5=>simp at h5
  exact⟨ov,b,⟨hk.get g1 (fun e=>hc e.symm),g2⟩,h1,.inr ⟨m,h2,h3,h4,hk.get h5 hbc⟩⟩
theorem Dc.move{ov:Value}{a':Nat}(h:Dc A H db wv ws a out)(hg:H.get db=some [wv,encN a,ov])(ha:a'≤ws.length):Dc A (List.set H db (some [wv,encN a',ov])) db wv ws a' out:=by
 obtain⟨ov',b,⟨g1,g2⟩,g3⟩:=h.g
 rw[hg]at g1
 cases g1
 exact⟨keepSet.ext h.ext h.dbA,h.w,⟨ov,b,⟨get_set_self (Heap.get_lt hg),g2⟩,g3.keep keepSet g2⟩,h.dbA,h.len,h.byt,ha,h.big⟩
theorem dcApp{cp:FuncId→Option CF}{z:List Value}{ov:Value}{n:Nat}{l:List UInt8}{R:Value→Heap→Prop}(h:Dc A H db wv ws a out)(hg:H.get db=some [wv,encN a,ov])(hlo:lo≤A.length)(hn:l.length=n)(hn0:0<n)(hbig:out.length+n≤20000)
  (k:∀(ad:Option Addr) (m:Nat) (H2:Heap),H2.get db=some [wv,encN a,ov]→db<H2.length→Dc A (List.set H2 db (some [wv,encN a,.slice ad m m])) db wv ws a (out++l)→R (.slice ad m m) H2):wpH cp lo (.app 1 z) [ov,.slice (some ⟨H.length,0,none⟩) n n] (H++[some (uU l)]) R:=by
 obtain⟨ov',b,⟨g1,g2⟩,g3⟩:=h.g
 rw[hg]at g1
 cases g1
 have hx:Ext H (H++[some (uU l)]):=Ext.app _ _
 have hA:=h.ext.1
 refine wpH_app ((g3.lower hlo).mono hx) (by simp;omega) (by omega) hn0 (by simp;omega) get_app0 (c:=uU l) (by simp;omega) (by rw[List.drop_zero,List.take_of_length_le (by simp;omega)]) (oneU l) ?_
 intro w' H2 ho hk hl
 obtain⟨ad,m,rfl⟩:=own_cast ho
 have hdl:=Heap.get_lt hg
 have hl1:(H++[some (uU l)]).length=H.length+1:=by simp
 have hb:A.length≤b:=g3.1
 have hg2:=hk.get (hx.get hg) (fun e=>g2 e.symm)
 refine k ad m H2 hg2 (by omega) ⟨keepSet.ext (hk.ext (h.ext.trans hx) hb) h.dbA,h.w,⟨_,H.length+1,⟨get_set_self (by omega),by omega⟩,?_⟩,h.dbA,h.len,h.byt,h.le,by simp;omega⟩
 have:Own A.length 1 H2 (.slice ad m m) (H.length+1) (uU (out++l)):=by
  rw[hl1]at ho
  obtain⟨h1,h2⟩:=ho
  exact⟨by omega,by simpa[uU]using h2⟩
 exact this.keep keepSet (by omega)
theorem Dc.at{k:Nat}(h:Dc A H db wv ws a out)(hk:k<ws.length):∃b o xs,lsem (.iAddr 1) [wv,.int .i64 (k:Nat)] H=some (.pointer (some ⟨b,o,none⟩))∧H.get b=some xs∧xs[o]?=some (encN (wd ws k)):=slN_at (h.w.mono h.ext) hk
def isRd(A:Heap)(db:Nat)(wv:Value)(ws:List Nat)(r:Value)(H':Heap):Rd→Prop
 | .inl e=>r=.int .i64 (e:Nat)∧Ext A H'∧e≠0
 | .inr (a,out)=>r=.int .i64 0∧Dc A H' db wv ws a out
theorem upP(hd:Dc A H db wv ws a out)(hlo:lo≤A.length)(hb:out.length+1≤20000):Ev cp lo 33 [ptr db] H (fun r H'=>isRd A db wv ws r H' (upS ws a out)):=by
 obtain⟨ov,b,⟨hg,hne⟩,ho⟩:=hd.g
 have hlen:=hd.len
 have hle:=hd.le
 have hdA:=hd.dbA
 have hdl:=Heap.get_lt hg
 obtain⟨aw,cw,ew⟩:=hd.w.len
 subst ew
 have hx0:=hd.ext
 unfold upS
 refine st33 ?_;unfold bd33 cf33;simp only[kB,ctlB]
 repeat' ((first|refine xSDg ?_|refine xODg rfl ?_);(try simp only[ctlB]))
 by_cases ha:ws.length≤a
 ·have hdd:decide ((a:Int)≥(ws.length:Nat))=true:=decide_eq_true (by omega)
  have hdd2:decide ((ws.length:Int)≤(a:Nat))=true:=decide_eq_true (by omega)
  rw[if_pos ha]
  refine xCDg (fun h=>?_) (fun h=>?_)
  ·(try simp only[ctlB])
   repeat' ((first|refine xSDg ?_|refine xODg rfl ?_);(try simp only[ctlB]))
   refine xRDg ?_
   exact⟨rfl,hx0,by omega⟩
  ·exfalso;simp at h
 have hdd:decide ((a:Int)≥(ws.length:Nat))=false:=decide_eq_false (by omega)
 have hdd2:decide ((ws.length:Int)≤(a:Nat))=false:=decide_eq_false (by omega)
 rw[if_neg ha]
 obtain⟨b1,o1,x1,i1,g1,e1⟩:=hd.at (k:=a) (by omega)
 have hby:=hd.byt a
 generalize hx:wd ws a=x at e1
 replace hby:x≤255:=by rw[←hx];exact hby
 clear hx
 refine xCDg (fun h=>?_) (fun h=>?_)
 ·exfalso;simp at h
 clear h hdd hdd2
 (try simp only[ctlB])
 repeat' ((first|refine xSDg ?_|refine xODg rfl ?_);(try simp only[ctlB]))
 by_cases hx:x<1∨128<x
 ·have hdd:(decide ((x:Int)<1) || decide ((x:Int)>128))=true:=by simp;omega
  rw[if_pos hx]
  refine xCDg (fun h=>?_) (fun h=>?_)
  ·(try simp only[ctlB])
   repeat' ((first|refine xSDg ?_|refine xODg rfl ?_);(try simp only[ctlB]))
   refine xRDg ?_
   exact⟨rfl,hx0,by omega⟩
  ·exfalso;simp at h
 have hx1:1≤x:=by omega
 have hx2:x≤128:=by omega
 have hd1:decide ((x:Int)<1)=false:=decide_eq_false (by omega)
 have hd2:decide ((x:Int)>128)=false:=decide_eq_false (by omega)
 have hd3:decide ((128:Int)<(x:Nat))=false:=decide_eq_false (by omega)
 rw[if_neg hx]
 clear hx
 have hmv:=hd.move (a':=a+1) hg (by omega)
 refine xCDg (fun h=>?_) (fun h=>?_)
 ·exfalso;first|(simp at h;done)|cases h
 clear h hd1 hd2 hd3
 (try simp only[ctlB])
 repeat' ((first|refine xSDg ?_|refine xODg rfl ?_);(try simp only[ctlB]))
 have hg1:Heap.get (List.set H db (some [.slice aw ws.length cw,encN (a+1),ov])) db=some [.slice aw ws.length cw,encN (a+1),ov]:=get_set_self hdl
 change wpS cp lo _ _ _ (List.set H db (some [.slice aw ws.length cw,encN (a+1),ov])++[some [Value.int .u8 ((x+127:Nat):Int)]])
 have hl1:H.length=(List.set H db (some [.slice aw ws.length cw,encN (a+1),ov])).length:=by simp
 generalize List.set H db (some [.slice aw ws.length cw,encN (a+1),ov])=H1 at hmv hg1 hl1
 rw[hl1]
 rw[←encU_of (n:=x+127) (by omega)]
 refine xHDg ?_
 refine dcApp (n:=1) (l:=[UInt8.ofNat (x+127)]) hmv hg1 hlo rfl (by omega) hb ?_
 intro ad m H2 hg2 hl2 hd2
 (try simp only[ctlB])
 repeat' ((first|refine xSDg ?_|refine xODg rfl ?_);(try simp only[ctlB]))
 refine xRDg ?_
 exact⟨rfl,hd2⟩
def triV(u:Nat×Nat×Nat):Value:=.agg #[encN u.1,encN u.2.1,encN u.2.2]
def isTri(A:Heap)(db:Nat)(wv:Value)(ws:List Nat)(a:Nat)(out:List UInt8)(r:Value)(H':Heap):Nat ⊕ Option (Nat×Nat×Nat)→Prop
 | .inl e=>r=.tuple #[triV (0,0,0),.bool false,.int .i64 (e:Nat)]∧Ext A H'∧e≠0
 | .inr none=>r=.tuple #[triV (0,0,0),.bool true,.int .i64 0]∧Dc A H' db wv ws (a+1) out
 | .inr (some u)=>r=.tuple #[triV u,.bool false,.int .i64 0]∧Dc A H' db wv ws (a+2) out∧(u.1≤39∧u.2.1≤39∧u.2.2≤39)∧a+2≤ws.length
theorem dtriP(hd:Dc A H db wv ws a out)(hlo:lo≤A.length):Ev cp lo 43 [ptr db] H (fun r H'=>isTri A db wv ws a out r H' (triS ws a)):=by
 obtain⟨ov,b,⟨hg,hne⟩,ho⟩:=hd.g
 have hlen:=hd.len
 have hle:=hd.le
 have hdA:=hd.dbA
 have hdl:=Heap.get_lt hg
 obtain⟨aw,cw,ew⟩:=hd.w.len
 subst ew
 have hlA:=hd.ext.1
 unfold triS
 refine st43 ?_;unfold bd43 cf43;simp only[kB,ctlB]
 repeat' ((first|refine xSDg ?_|refine xODg rfl ?_);(try simp only[ctlB]))
 have hxb:Ext H (H++[some [encN 0,encN 0,encN 0]]):=Ext.app _ _
 have hgb:(H++[some [encN 0,encN 0,encN 0]]).get H.length=some [encN 0,encN 0,encN 0]:=get_app0
 have hgd:=hxb.get hg
 have hd1:=hd.mono hxb
 change wpS cp lo _ _ _ (H++[some [encN 0,encN 0,encN 0]])
 generalize H++[some [encN 0,encN 0,encN 0]]=H1 at hxb hgb hgd hd1
 have hbl:=Heap.get_lt hgb
 have hx1:=hd1.ext
 have hne3:H.length≠db:=by omega
 by_cases ha:ws.length≤a
 ·have hdd:decide ((a:Int)≥(ws.length:Nat))=true:=decide_eq_true (by omega)
  have hdd2:decide ((ws.length:Int)≤(a:Nat))=true:=decide_eq_true (by omega)
  rw[if_pos ha]
  refine xCDg (fun h=>?_) (fun h=>?_)
  ·(try simp only[ctlB])
   repeat' ((first|refine xSDg ?_|refine xODg rfl ?_);(try simp only[ctlB]))
   have hgz:=get_set_self (c:=[encN 0,encN 0,encN 0]) hbl
   have hxz:Ext A (List.set H1 H.length (some [encN 0,encN 0,encN 0])):=keepSet.ext hx1 hlA
   generalize List.set H1 H.length (some [encN 0,encN 0,encN 0])=H2 at hgz hxz
   refine xRDg ?_
   exact⟨rfl,hxz,by omega⟩
  ·exfalso;simp at h
 have hdd:decide ((a:Int)≥(ws.length:Nat))=false:=decide_eq_false (by omega)
 have hdd2:decide ((ws.length:Int)≤(a:Nat))=false:=decide_eq_false (by omega)
 rw[if_neg ha]
 obtain⟨b1,o1,x1,i1,g1,e1⟩:=hd1.at (k:=a) (by omega)
 have hby:=hd.byt a
 obtain⟨x,hx⟩:∃x,False∨wd ws a=x:=⟨_,.inr rfl⟩
 rw[hx.resolve_left id]at e1 ⊢
 replace hby:x≤255:=by rw[←hx.resolve_left id];exact hby
 refine xCDg (fun h=>?_) (fun h=>?_)
 ·exfalso;simp at h
 clear h hdd hdd2
 (try simp only[ctlB])
 by_cases h254:x=254
 ·have hdd:decide ((x:Int)=254)=true:=decide_eq_true (by omega)
  rw[if_pos h254]
  replace h254:x≤254:=by omega
  refine xCDg (fun h=>?_) (fun h=>?_)
  ·clear h hdd
   (try simp only[ctlB])
   repeat' ((first|refine xSDg ?_|refine xODg rfl ?_);(try simp only[ctlB]))
   have hmv:=hd1.move (a':=a+1) hgd (by omega)
   have hgz:Heap.get (List.set H1 db (some [.slice aw ws.length cw,encN (a+1),ov])) H.length=some [encN 0,encN 0,encN 0]:=by rw[get_set_ne (by omega)];exact hgb
   have hlz:=Heap.get_lt hgz
   have hfin:=hmv.keep (c:=H.length) hne3 hlA hgz (keepSet (x:=some [encN 0,encN 0,encN 0]))
   have hgy:=get_set_self (c:=[encN 0,encN 0,encN 0]) hlz
   change bodyQ _ _ .ret _ (List.set (List.set H1 db (some [.slice aw ws.length cw,encN (a+1),ov])) H.length (some [encN 0,encN 0,encN 0]))
   generalize List.set (List.set H1 db (some [.slice aw ws.length cw,encN (a+1),ov])) H.length (some [encN 0,encN 0,encN 0])=H2 at hfin hgy
   refine xRDg ?_
   exact⟨rfl,hfin⟩
  ·exfalso;simp at h
 have hdd:decide ((x:Int)=254)=false:=decide_eq_false (by omega)
 rw[if_neg h254]
 refine xCDg (fun h=>?_) (fun h=>?_)
 ·exfalso;simp at h
 clear h hdd
 (try simp only[ctlB])
 by_cases ha1:ws.length≤a+1
 ·have hdd:decide ((a:Int)+1≥(ws.length:Nat))=true:=decide_eq_true (by omega)
  have hdd2:decide ((ws.length:Int)≤(a:Nat)+1)=true:=decide_eq_true (by omega)
  rw[if_pos ha1]
  refine xCDg (fun h=>?_) (fun h=>?_)
  ·(try simp only[ctlB])
   repeat' ((first|refine xSDg ?_|refine xODg rfl ?_);(try simp only[ctlB]))
   have hgz:=get_set_self (c:=[encN 0,encN 0,encN 0]) hbl
   have hxz:Ext A (List.set H1 H.length (some [encN 0,encN 0,encN 0])):=keepSet.ext hx1 hlA
   generalize List.set H1 H.length (some [encN 0,encN 0,encN 0])=H2 at hgz hxz
   refine xRDg ?_
   exact⟨rfl,hxz,by omega⟩
  ·exfalso;simp at h
 have hdd:decide ((a:Int)+1≥(ws.length:Nat))=false:=decide_eq_false (by omega)
 have hdd2:decide ((ws.length:Int)≤(a:Nat)+1)=false:=decide_eq_false (by omega)
 rw[if_neg ha1]
 obtain⟨b2,o2,x2,i2,g2,e2⟩:=hd1.at (k:=a+1) (by omega)
 have hby2:=hd.byt (a+1)
 obtain⟨y,hy⟩:∃y,False∨wd ws (a+1)=y:=⟨_,.inr rfl⟩
 rw[hy.resolve_left id]at e2 ⊢
 replace hby2:y≤255:=by rw[←hy.resolve_left id];exact hby2
 simp only[Int.natCast_add,Int.natCast_one]at i2
 refine xCDg (fun h=>?_) (fun h=>?_)
 ·exfalso;simp at h
 clear h hdd hdd2
 (try simp only[ctlB])
 repeat' ((first|refine xSDg ?_|refine xODg rfl ?_);(try simp only[ctlB]))
 by_cases hn:256*x+y<1∨64000<256*x+y
 ·have hdd:(decide (256*(x:Int)+(y:Nat)-1<0) || decide (256*(x:Int)+(y:Nat)-1≥64000))=true:=by simp;omega
  rw[if_pos hn]
  refine xCDg (fun h=>?_) (fun h=>?_)
  ·(try simp only[ctlB])
   repeat' ((first|refine xSDg ?_|refine xODg rfl ?_);(try simp only[ctlB]))
   have hgz:=get_set_self (c:=[encN 0,encN 0,encN 0]) hbl
   have hxz:Ext A (List.set H1 H.length (some [encN 0,encN 0,encN 0])):=keepSet.ext hx1 hlA
   generalize List.set H1 H.length (some [encN 0,encN 0,encN 0])=H2 at hgz hxz
   refine xRDg ?_
   exact⟨rfl,hxz,by omega⟩
  ·exfalso;simp at h
 rw[if_neg hn]
 obtain⟨n,hnn,hnl,hni⟩:∃n:Nat,256*x+y-1=n∧n<64000∧256*(x:Int)+(y:Nat)-1=(n:Nat):=⟨_,rfl,by omega,by omega⟩
 rw[hnn]
 rw[hni]
 clear hnn hni hn
 have q1:(n:Int).tdiv 1600=((n/1600:Nat):Int):=by rw[Int.tdiv_eq_ediv_of_nonneg (by omega)];omega
 have q2:(n:Int).tdiv 40=((n/40:Nat):Int):=by rw[Int.tdiv_eq_ediv_of_nonneg (by omega)];omega
 have q3:((n/40:Nat):Int).tmod 40=((n/40%40:Nat):Int):=by rw[Int.tmod_eq_emod_of_nonneg (by omega)];omega
 have q4:(n:Int).tmod 40=((n%40:Nat):Int):=by rw[Int.tmod_eq_emod_of_nonneg (by omega)];omega
 have r1:n/1600≤39:=by omega
 have r2:n/40%40≤39:=by omega
 have r3:n%40≤39:=by omega
 have r4:n/40≤1600:=by omega
 generalize n/1600=u1 at q1 r1
 generalize n/40%40=u2 at q3 r2
 generalize n%40=u3 at q4 r3
 generalize n/40=n4 at q2 q3 r4
 have hdd1:decide ((n:Int)<0)=false:=decide_eq_false (by omega)
 have hdd2:decide ((n:Int)≥64000)=false:=decide_eq_false (by omega)
 have hdd3:decide ((64000:Int)≤(n:Nat))=false:=decide_eq_false (by omega)
 refine xCDg (fun h=>?_) (fun h=>?_)
 ·exfalso;first|(simp at h;done)|cases h
 clear h hdd1 hdd2 hdd3
 (try simp only[ctlB])
 repeat' ((first|refine xSDg ?_|refine xODg rfl ?_);(try simp only[ctlB]))
 have hmv:=hd1.move (a':=a+2) hgd (by omega)
 have hgz:Heap.get (List.set H1 db (some [.slice aw ws.length cw,encN (a+2),ov])) H.length=some [encN 0,encN 0,encN 0]:=by rw[get_set_ne (by omega)];exact hgb
 have hlz:=Heap.get_lt hgz
 have hfin:=hmv.keep (c:=H.length) hne3 hlA hgz (keepSet (x:=some [encN u1,encN u2,encN u3]))
 have hgy:=get_set_self (c:=[encN u1,encN u2,encN u3]) hlz
 change bodyQ _ _ .ret _ (List.set (List.set H1 db (some [.slice aw ws.length cw,encN (a+2),ov])) H.length (some [encN u1,encN u2,encN u3]))
 generalize List.set (List.set H1 db (some [.slice aw ws.length cw,encN (a+2),ov])) H.length (some [encN u1,encN u2,encN u3])=H2 at hfin hgy
 refine xRDg ?_
 exact⟨rfl,hfin,⟨r1,r2,r3⟩,by omega⟩
def isUB(a:Int)(b:Bool):Option (Value×Heap)→Bool
 | some (.tuple cs,_)=>match cs.toList with
  | [.int .u8 x,.bool y]=>x==a&&y==b
  | _=>false
 | _=>false
theorem isUB_eq{a:Int}{b:Bool}{r:Option (Value×Heap)}(h:isUB a b r=true):r.map (·.1)=some (.tuple [Value.int .u8 a,Value.bool b].toArray):=by
 match r,h with
 | some (.tuple cs,H),h=>
  simp only[isUB]at h
  split at h
  ·rename_i x y e
   simp only[Bool.and_eq_true,beq_iff_eq]at h
   obtain⟨rfl,rfl⟩:=h
   have:cs=[Value.int .u8 x,Value.bool y].toArray:=by rw[←e]
   rw[this];rfl
  ·cases h
def isU(n:Int):Option (Value×Heap)→Bool
 | some (.int .u8 m,_)=>m==n
 | _=>false
theorem isU_eq{n:Int}{r:Option (Value×Heap)}(h:isU n r=true):r.map (·.1)=some (.int .u8 n):=by
 match r,h with
 | some (.int .u8 m,_),h=>
  have h':m=n:=by simpa[isU]using h
  rw[h'];rfl
theorem chrT:(List.range 4).all (fun s=>(List.range 40).all fun k=>[false,true].all fun b=>isUB (if chrS b s k=128 then 0 else chrS b s k) (chrS b s k != 128) ((run cp 4).ret 0 44 [.bool b,.int .i64 (s:Nat),.int .i64 (k:Nat)] []))=true:=by kernel_rfl
theorem xchT:(List.range 40).all (fun k=>isU (xchr k:Nat) ((run cp 4).ret 0 46 [.int .i64 (k:Nat)] []))=true:=by kernel_rfl
theorem chrP{H:Heap}{b:Bool}{s k:Nat}(hs:s<4)(hk:k<40)(hlo:lo≤H.length):Ev cp lo 44 [.bool b,encN s,encN k] H (fun v H'=>v=.tuple #[.int .u8 (if chrS b s k=128 then 0 else chrS b s k:Nat),.bool (chrS b s k != 128)]∧Ext H H'):=by
 have h:=List.all_eq_true.1 (List.all_eq_true.1 (List.all_eq_true.1 chrT s (List.mem_range.2 hs)) k (List.mem_range.2 hk)) b (by cases b<;>simp)
 have e:=isUB_eq h
 have e2:(if chrS b s k=128 then(0:Int) else(chrS b s k:Nat))=((if chrS b s k=128 then 0 else chrS b s k:Nat):Int):=by split<;>rfl
 rw[e2]at e
 exact ev_closedT cp_plain (n:=4) rfl e rfl hlo
theorem xchP{H:Heap}{k:Nat}(hk:k<40)(hlo:lo≤H.length):Ev cp lo 46 [encN k] H (fun v H'=>v=.int .u8 (xchr k:Nat)∧Ext H H'):=
 ev_closed cp_plain (n:=4) (v:=.int .u8 (xchr k:Nat)) rfl (isU_eq (List.all_eq_true.1 xchT k (List.mem_range.2 hk))) rfl hlo
end
end Go.Proofs.Ythnflhimcmdnbaa
