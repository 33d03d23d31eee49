/- Lemmas. -/
import Derived.Test.YtmnlgdpdgjbfgaaGreatD13
set_option linter.all false
namespace Go.Proofs.YtmnlgdpdgjbfgaaGreat
open Go.Abs
section
variable {α:Type}{enc:α->List Value}{n:Nat}
def cat(enc:α->List Value):List α->List Value
 | []=>[]
 | x::l=>enc x++cat enc l
theorem tX(h:∀x,(enc x).length=n):∀l:List α,(cat enc l).length=l.length*n
 | []=>by simp[cat]
 | x::l=>by rw[cat,as₀,h,tX h l,ak₀,Nat.succ_mul];omega
theorem CB(h:∀x,(enc x).length=n):∀(l:List α) (k:Nat) (hk:k<l.length),((cat enc l).drop (k*n)).take n=enc l[k]
 | x::l,0,hk=>by
  rw[Nat.zero_mul,List.drop_zero,cat,List.take_append_of_le_length (by rw[h];exact Nat.le_refl _),List.take_of_length_le (by rw[h];exact Nat.le_refl _)];rfl
 | x::l,k+1,hk=>by
  have e:(k+1)*n=(enc x).length+k*n:=by rw[h,Nat.succ_mul];omega
  rw[e,<-List.drop_drop,cat,List.drop_left];exact CB h l k (by simpa using hk)
def OwnG(lo n:Nat)(H:Heap)(v:Value)(b:Nat)(X:List Value):Prop:=
 Own lo n H v b X\/(lo<=b/\∃k,0<k/\k*n=X.length/\v=.slice (some ⟨b,0,none⟩) k k/\H.get b=some X)
theorem OwnG.mono{lo n b:Nat}{H H':Heap}{v:Value}{X:List Value}(h:OwnG lo n H v b X)(e:Ext H H'):OwnG lo n H' v b X:=by
 rcases h with h|⟨h1,k,h2,h3,h4,h5⟩
 ·exact .inl (h.mono e)
 ·exact .inr ⟨h1,k,h2,h3,h4,e.get h5⟩
theorem OwnG.nil{lo n b:Nat}{H:Heap}(h:lo<=b):OwnG lo n H (.slice none 0 0) b []:=.inl (Own.nil h)
theorem OwnG.len{lo b:Nat}{H:Heap}{v:Value}{L:List α}(hn:0<n)(he:∀x,(enc x).length=n)(h:OwnG lo n H v b (cat enc L)):∃a,v=.slice a L.length L.length:=by
 have e:=tX he L;have key:∀k,k*n=(cat enc L).length->k=L.length:=fun k hk=>Nat.eq_of_mul_eq_mul_right hn (hk.trans e);rcases h with h|⟨_,k,_,hk,rfl,_⟩
 ·obtain⟨a,k,rfl,hk,_⟩:=h.len hn
  rw[key k hk];exact⟨_,rfl⟩
 ·rw[key k hk];exact⟨_,rfl⟩
theorem OwnG.at{lo b:Nat}{H:Heap}{v:Value}{L:List α}(hn:0<n)(he:∀x,(enc x).length=n)(h:OwnG lo n H v b (cat enc L)){k:Nat}(hk:k<L.length) :
  ∃p o X,aJ (.iAddr n) [v,.int .i64 (k:Nat)] H=some (.pointer (some ⟨p,o,none⟩))/\H.get p=some X/\o+n<=X.length/\(X.drop o).take n=enc L[k]:=by
 have hx:=CB he L k hk;have hl:=tX he L;have hle:k*n+n<=L.length*n:=by rw[<-Nat.succ_mul];exact Nat.mul_le_mul_right _ hk
 obtain⟨a,e⟩:=h.len hn he;have key:∀sp,v=.slice (some ⟨b,0,sp⟩) L.length L.length->H.get b=some (cat enc L)->∃p o X,aJ (.iAddr n) [v,.int .i64 (k:Nat)] H=some (.pointer (some ⟨p,o,none⟩))/\H.get p=some X/\o+n<=X.length/\(X.drop o).take n=enc L[k]:=by
  rintro sp rfl hg;refine⟨b,0+k*n,_,?_,hg,byO,by rw[Nat.zero_add];exact hx⟩;rw[nQ byO byO];simp
 rcases h with ⟨_,⟨_,h⟩|⟨m,_,_,h3,h4⟩⟩|⟨_,m,_,_,h3,h4⟩
 ·have:=Nat.mul_pos (show 0<L.length by omega) hn
  rw[h,an₀]at hl;omega
 ·rw[h3]at e;cases e
  exact key _ h3 h4
 ·rw[h3]at e;cases e
  exact key _ h3 h4
end
set_option maxRecDepth 20000
abbrev ptr(b:Nat):Value:=.pointer (some ⟨b,0,none⟩)
structure Opt where
 h0:Nat
 h1:Nat
 h2:Nat
 sz:Nat
 run:Nat
 nx:Nat
 md:Nat
def O5(o:Opt):List Value:=[aD o.h0,aD o.h1,aD o.h2,aD o.sz,aD o.run,aD o.nx,aD o.md]
structure SrH (H:Heap)(sb cb:Nat)(v:Value)(p:List UInt8)(cs:List Nat):Prop where
 g:H.get sb=some [v,.slice (some ⟨cb,0,none⟩) (p.length+1) (p.length+1)]
 c:H.get cb=some (uN cs)
 pl:SlU H v p
 len:cs.length=(p.length+1)*19
 hi:p.length<=4096
 le:∀i,cs.getD i 0<=1073741824
theorem SrH.ext{H H':Heap}{sb cb:Nat}{v:Value}{p:List UInt8}{cs:List Nat}(h:SrH H sb cb v p cs)(e:Ext H H'):SrH H' sb cb v p cs:=
 ⟨e.get h.g,e.get h.c,h.pl.mono e,h.len,h.hi,h.le⟩
def oR(cs:List Nat)(o:Opt):Nat:=o.sz+o.run+cs.getD (o.nx*19+o.md) 0
section
variable {lo:Nat}{H:Heap}{sb cb:Nat}{v:Value}{p:List UInt8}{cs:List Nat}
namespace XMDc
def xtr:=zzi @Int.cast_ofNat_Int @ite_self.{1}
end XMDc
open XMDc
end
open Go.Abs
theorem lY{a:Nat}:BitVec.ofInt 64 ((a:Nat):Int)=BitVec.ofNat 64 a:=BitVec.ofInt_natCast 64 a
theorem wi{a:Nat}(h:a<9223372036854775808):IntKind.i64.wrap (a:Int)=(a:Int):=eX byO byO
theorem tR{a b:Nat}(ha:a<2^63)(hb:b<2^63):IntKind.i64.wrap ((BitVec.ofInt IntKind.i64.bits (a:Int) &&& BitVec.ofInt IntKind.i64.bits (b:Int)).toNat:Int)=((a &&& b:Nat):Int):=by
 have e:(BitVec.ofInt IntKind.i64.bits (a:Int) &&& BitVec.ofInt IntKind.i64.bits (b:Int)).toNat=a &&& b:=by
  show(BitVec.ofInt 64 (a:Int) &&& BitVec.ofInt 64 (b:Int)).toNat=a &&& b;rw[lY,lY,BitVec.toNat_and,BitVec.toNat_ofNat,BitVec.toNat_ofNat,Nat.mod_eq_of_lt byO,Nat.mod_eq_of_lt byO]
 rw[e];refine wi ?_;exact Nat.lt_of_le_of_lt Nat.and_le_left ha
theorem ME{a b:Nat}(ha:a<2^62)(hb:b<2^62):IntKind.i64.wrap ((BitVec.ofInt IntKind.i64.bits (a:Int) ||| BitVec.ofInt IntKind.i64.bits (b:Int)).toNat:Int)=((a ||| b:Nat):Int):=by
 have e:(BitVec.ofInt IntKind.i64.bits (a:Int) ||| BitVec.ofInt IntKind.i64.bits (b:Int)).toNat=a ||| b:=by
  show(BitVec.ofInt 64 (a:Int) ||| BitVec.ofInt 64 (b:Int)).toNat=a ||| b;rw[lY,lY,BitVec.toNat_or,BitVec.toNat_ofNat,BitVec.toNat_ofNat,Nat.mod_eq_of_lt byO,Nat.mod_eq_of_lt byO]
 rw[e];refine wi ?_;have:=Nat.or_lt_two_pow ha hb;omega
theorem Mk(a:Nat):a &&& 63=a%64:=Nat.and_two_pow_sub_one_eq_mod a 6
theorem JN{a b:Nat}(k:Nat)(hb:b=2^k)(hk:k<=64):(a:Int).fdiv (2^(min ((k:Nat):Int).toNat IntKind.i64.bits))=((a/b:Nat):Int):=by
 subst hb;have e:min ((k:Nat):Int).toNat IntKind.i64.bits=k:=by
  show min ((k:Nat):Int).toNat 64=k;simp;omega
 rw[e,Int.fdiv_eq_ediv_of_nonneg _ (by exact Int.le_of_lt (Int.pow_pos (by decide)))];simp
def Px(u v w at' md:Nat):Opt:=⟨(1600*u+40*v+w+1)/256,(1600*u+40*v+w+1)%256,0,2,0,at',md⟩
def Nj(g n at' md:Nat):Opt:=⟨g*2^(6*(4-n))/65536,g*2^(6*(4-n))/256%256,g*2^(6*(4-n))%256,(6*n+7)/8,0,at',md⟩
section
variable {lo:Nat}{H:Heap}
open XMDc
end
structure Mv where
 v:Nat
 a:Nat
 s:Nat
 u:Bool
abbrev by'(p:List UInt8)(i:Nat):Nat:=(p.getD i 0).toNat
def mv3(a:Nat)(u:Bool)(k:Nat):List Mv:=(List.range k).map fun i=>⟨i,a,i+1,u⟩
def mvA(a s:Nat)(u:Bool):List Mv:=if s=0 then mv3 a u 3 else[]
def mvB(p:List UInt8)(a s:Nat)(u lower:Bool):List Mv:=if a<p.length/\(Dw lower (by' p a%128)).1=s/\u=decide (128<=by' p a) then[⟨(Dw lower (by' p a%128)).2,a+1,0,false⟩] else[]
def mvD(a s:Nat)(u:Bool):List Mv:=if s=2/\u=false then[⟨30,a,0,true⟩] else[]
def L7(p:List UInt8)(a s:Nat)(u lower:Bool):List Mv:=mvA a s u++mvB p a s u lower++mvD a s u
def Mv.ok(p:List UInt8)(a:Nat)(m:Mv):Prop:=m.v<=39/\a<=m.a/\m.a<=p.length/\m.s<=3
def OK(at':Nat):Opt:=⟨254,0,0,1,0,at',0⟩
def OU(first:Nat)(w:Mv):Nat:=if w.u then first+w.s+4 else first+w.s
def SB(first:Nat)(u v:Mv)(L:List Mv):List Opt:=L.map fun w=>Px u.v v.v w.v w.a (OU first w)
def SA(p:List UInt8)(first:Nat)(lower:Bool)(u:Mv)(L:List Mv):List Opt:=L.flatMap fun v=>SB first u v (L7 p v.a v.s v.u lower)
def Rz(p:List UInt8)(first:Nat)(lower:Bool)(L:List Mv):List Opt:=L.flatMap fun u=>SA p first lower u (L7 p u.a u.s u.u lower)
def AE(p:List UInt8)(at' st first:Nat)(lower:Bool):List Opt:=OK at'::Rz p first lower (L7 p at' (st%4) (decide (4<=st)) lower)
def QB(p:List UInt8)(at':Nat):List Opt:=
 OK at'::if at'+3<=p.length/\Ba (by' p at')≠0/\Ba (by' p (at'+1))≠0/\Ba (by' p (at'+2))≠0 then[Px (Ba (by' p at')-1) (Ba (by' p (at'+1))-1) (Ba (by' p (at'+2))-1) (at'+3) 17] else[]
def Ny(p:List UInt8)(at':Nat):Nat->Nat->Nat->List Opt
 | 0,n,g=>[Nj g 4 (at'+n) 18]
 | k+1,n,g=>Nj (64*g+31) (n+1) (at'+n) 0::if at'+n<p.length/\32<=by' p (at'+n)/\by' p (at'+n)<=94 then Ny p at' k (n+1) (64*g+by' p (at'+n)%64) else[]
def Nz(p:List UInt8)(at':Nat):List Opt:=Ny p at' 4 0 0
def FO(at' n:Nat):Opt:=if n<250 then⟨231,n,0,2,n,at'+n,0⟩ else⟨231,249+n/250,n%250,3,n,at'+n,0⟩
def KB:Opt:=⟨0,0,0,0,0,0,0⟩
def KM(cs:List Nat)(at':Nat):Nat->Opt
 | 0=>KB
 | n+1=>if n=0 then FO at' 1 else if oR cs (FO at' (n+1))<oR cs (KM cs at' n) then FO at' (n+1) else KM cs at' n
def QT(p:List UInt8)(cs:List Nat)(at':Nat):Opt:=KM cs at' (min (p.length-at') 1749)
def OL(at':Nat):List Opt:=[⟨230,0,0,1,0,at',1⟩,⟨239,0,0,1,0,at',9⟩,⟨238,0,0,1,0,at',17⟩,⟨240,0,0,1,0,at',18⟩]
def JE(c at':Nat):Opt:=if c<128 then⟨c+1,0,0,1,0,at'+1,0⟩ else⟨235,c-127,0,2,0,at'+1,0⟩
def JU(p:List UInt8)(at':Nat):List Opt:=if at'+2<=p.length/\Nr (by' p at')=true/\Nr (by' p (at'+1))=true then[⟨130+(10*(by' p at'-48)+by' p (at'+1)-48),0,0,1,0,at'+2,0⟩] else[]
def QQ(p:List UInt8)(cs:List Nat)(at':Nat):List Opt:=OL at'++if at'<p.length then[JE (by' p at') at']++JU p at'++[QT p cs at'] else[]
def Gf(p:List UInt8)(cs:List Nat)(at' st:Nat):List Opt:=
 if st=0 then QQ p cs at' else if st<9 then AE p at' (st-1) 1 false else if st<17 then AE p at' (st-9) 9 true else if st=17 then QB p at' else Nz p at'
structure Opt.ok (n at':Nat)(o:Opt):Prop where
 sz:1<=o.sz/\o.sz<=3
 run:o.run<=1749
 nx:at'<=o.nx/\o.nx<=n
 md:o.md<19
 h:o.h0<=255/\o.h1<=255/\o.h2<=255
theorem map_take{α β:Type}(f:α->β)(l:List α)(k:Nat)(h:k<l.length):(l.take (k+1)).map f=(l.take k).map f++[f l[k]]:=by
 rw[List.take_succ_eq_append_getElem h,List.map_append];rfl
section
variable {lo:Nat}{H:Heap}{sb cb:Nat}{v:Value}{p:List UInt8}{cs:List Nat}
open XMDc
end
theorem OwnG.keep{lo n b b':Nat}{H H':Heap}{v:Value}{X:List Value}(h:OwnG lo n H v b X)(e:Keep b' H H')(hne:b≠b'):OwnG lo n H' v b X:=by
 rcases h with h|⟨h1,k,h2,h3,h4,h5⟩
 ·exact .inl (h.keep e hne)
 ·exact .inr ⟨h1,k,h2,h3,h4,e.get h5 hne⟩
theorem dW{b b':Nat}{H H1 H2:Heap}(h:Keep b H H1)(hb:b'=b\/H.length<=b')(h2:Keep b' H1 H2):Keep b H H2:=
 ⟨Nat.le_trans h.len h2.len,fun i hi hne=>by rw[h2.eq i (bc₀ hi h.len) byO,h.eq i hi hne]⟩
theorem Ext.keep{b:Nat}{H H1:Heap}(h:Ext H H1):Keep b H H1:=⟨h.1,fun i hi _=>h.2 i hi⟩
def AppG(lo n:Nat)(G:Heap)(b:Nat)(X:List Value)(w:Value)(H':Heap):Prop:=∃b',(b'=b\/G.length<=b')/\b'<H'.length/\OwnG lo n H' w b' X/\Keep b G H'
theorem AppG.trans{lo n b b':Nat}{G H1 G2 H2:Heap}{w:Value}{X:List Value}(hk:Keep b G H1)(hb:b'=b\/G.length<=b')(hx:Ext H1 G2)(h:AppG lo n G2 b' X w H2):AppG lo n G b X w H2:=by
 obtain⟨b2,h1,h2,h3,h4⟩:=h;have l1:=hk.len;have l2:=hx.1;exact⟨b2,byO,h2,h3,dW hk hb (dW (Ext.keep hx) (.inl rfl) h4)⟩
theorem AppG.ext{lo n b:Nat}{A G H1:Heap}{w:Value}{X:List Value}(h:AppG lo n G b X w H1)(e:Ext A G)(hb:A.length<=b):Ext A H1:=by
 obtain⟨b2,h1,h2,h3,h4⟩:=h;exact h4.ext e hb
section
variable {α:Type}{enc:α->List Value}{n:Nat}
end
section
variable {lo:Nat}{H:Heap}{sb cb:Nat}{v:Value}{p:List UInt8}{cs:List Nat}
open XMDc
end
end Go.Proofs.YtmnlgdpdgjbfgaaGreat
