/- Lemmas. -/
import Derived.Test.YtmnlgdpdgjbfgaaGreatF10
import Derived.Test.YtmnlgdpdgjbfgaaGreatF19
set_option linter.all false
namespace Go.Proofs.YtmnlgdpdgjbfgaaGreat
open Go.Abs Go.RS
set_option maxRecDepth 20000
theorem NP(k:IntKind)(a b c a' b' c':Int):ag [1,1,1] [.int k a,.int k b,.int k c] [.int k a',.int k b',.int k c']=some (decide (a=a')&&(decide (b=b')&&decide (c=c'))):=by
 have e:∀x y:Int,(x==y)=decide (x=y):=fun x y=>by rw[Bool.eq_iff_iff];simp
 simp[ag,jc,e]
theorem kf(b:Bool):(if b=true then some true else some false)=some b:=by cases b<;>rfl
theorem ke(b:Bool):(if b=false then some true else some false)=some (!b):=by cases b<;>rfl
theorem kc{p:Prop}[Decidable p]:(if p then some false else some true)=some (!decide p):=by by_cases h:p<;>simp[h]
def fv(ch sz po:Int):Value:=.agg #[.int .i64 ch,.int .i64 sz,.int .i64 po]
def FD.ch(f:FD):Nat:=if f.poly=0 then f.q else 2
def fvf(f:FD):Value:=fv (FD.ch f) f.q f.poly
def OkF(ch sz po:Int)(f:FD):Prop:=f.Ok/\sz=f.q/\po=f.poly/\ch=FD.ch f
namespace XGb
def xtr:=zzi @Int.cast_ofNat_Int (zzi @NP (zzi @kf (zzi @ke @kc)))
end XGb
open XGb
set_option maxHeartbeats 1000000 in
theorem valid{lo:Nat}{H:Heap}{ch sz po:Int}(hb:po<=9223372036854775807):Ev cp lo 100 [fv ch sz po] H (fun v H'=>Ext H H'/\∃b,v=.bool b/\(b=true↔∃f,OkF ch sz po f)):=by
 unfold fv;refine stG rfl rfl ?_;unfold Kc;simp only[kB,aD];refine aA ?_;refine aP ?_ ?_<;>intro h
 ·have hpo:po=0:=by simpa using h
  clear h;subst hpo;(try simp only[aD]);refine aU aN dP aN ?_ ?_<;>intro h
  ·have hc:2<sz/\sz<=4096/\ch=sz:=by simp at h;omega
   obtain⟨n,hn⟩:∃n:Nat,(n:Int)=sz:=⟨sz.toNat,byO⟩;refine⟨_,aN,?_⟩;refine aC (by rw[<-hn];exact Sc (n:=n) byO) ?_;rintro v H1 ⟨rfl,b,rfl,hb⟩;clear h;refine aA ?_;refine aK ?_;refine⟨Ext.app _ _,b,?_,?_⟩
   ·have hT:((decide (2<sz)&&decide (sz<=4096))&&((decide (ch=sz)&&(decide (sz=sz)&&decide ((0:Int)=0))) != false))=true:=by simp;omega
    simp[aM,hc]
   ·rw[hb,Bz byO]
    constructor
    ·intro hp
     exact⟨⟨n,0⟩,.inl ⟨rfl,by simp;omega,by simp;omega,hp⟩,by simp;omega,rfl,by simp[FD.ch];omega⟩
    ·rintro⟨f,hf,h1,h2,h3⟩
     rcases hf with ⟨e0,e1,e2,e3⟩|⟨e0,e1,_⟩
     ·have:f.q=n:=byO
      rw[<-this];exact e3
     ·exfalso;omega
  ·have hc:¬ (2<sz/\sz<=4096/\ch=sz):=by
    rintro⟨h1,h2,h3⟩;simp[h1,h2,h3]at h
   refine aA ?_;refine aK ?_;refine⟨Ext.app _ _,false,rfl,?_⟩;simp only[ah₀,false_iff];rintro⟨f,hf,h1,h2,h3⟩;apply hc;rcases hf with ⟨e0,e1,e2,e3⟩|⟨e0,e1,_⟩
   ·unfold FD.ch at h3;rw[if_pos e0]at h3;omega
   ·omega
 have hpo:¬ po=0:=by simpa using h
 clear h;(try simp only[aD]);by_cases hp2:po<2
 ·refine aU aN dP aN (fun h=>by simp[hp2]at h) (fun h=>?_)
  clear h;(try simp only[aD]);refine bL ?_;refine aA ?_;refine aK ?_;refine⟨Ext.app _ _,false,rfl,?_⟩;simp only[ah₀,false_iff];rintro⟨f,hf,h1,h2,h3⟩;rcases hf with ⟨e0,e1,e2,e3⟩|⟨e0,e1,_⟩
  ·omega
  ·omega
 obtain⟨p,hp⟩:∃p:Nat,(p:Int)=po:=⟨po.toNat,byO⟩;have hlp:=dU (n:=p) byO;have hlp2:=eA (show p<2^63 by omega);have hlp':bY p<=p.log2+1/\p.log2+1<=bY p:=byO;have hl1:=oT (p:=p) byO;clear hlp;refine aU aN dP aN (fun h=>⟨_,aN,?_⟩) (fun h=>by simp[hp2]at h);clear h;refine aC (by rw[<-hp];exact degree (n:=p) byO) ?_;rintro v H1 ⟨rfl,rfl⟩;(try simp only[aD]);refine aP ?_ ?_<;>intro h
 ·have hc:12<p.log2:=by simp at h;omega
  clear h;refine aA ?_;refine aK ?_;refine⟨Ext.app _ _,false,rfl,?_⟩;simp only[ah₀,false_iff];rintro⟨f,hf,h1,h2,h3⟩;rcases hf with ⟨e0,e1,e2,e3⟩|⟨e0,e1,e2,_⟩
  ·omega
  ·have:f.poly=p:=byO
   rw[this]at e2;omega
 have hc:p.log2<=12:=by simp at h;omega
 clear h;refine bF ?_;refine bS (by rw[<-hp];exact degree (n:=p) byO) ?_;rintro v H2 ⟨rfl,rfl⟩;have e1:(((bY p:Nat):Int)-1).toNat=p.log2:=byO;have e2:=kr (a:=1) (k:=p.log2) (by
  have:2^p.log2<=2^12:=Nat.pow_le_pow_right byO hc;omega) byO
 have e3:IntKind.i64.wrap (1*2^min p.log2 IntKind.i64.bits)=((2^p.log2:Nat):Int):=by
  rw[show(1:Int)=((1:Nat):Int) from rfl,e2,Nat.shiftLeft_eq,Nat.one_mul]
 have hpw:2^p.log2<=2^12:=Nat.pow_le_pow_right byO hc;have hpb:p<2^13:=bd₀ (cV p) (Nat.pow_le_pow_right byO byO);generalize hQ:2^p.log2=Q at *;(try simp only[aD]);refine aU aN dP aN ?_ ?_<;>intro h
 ·have hcc:ch=2/\sz=(Q:Int):=by simp at h;omega
  refine⟨_,aN,?_⟩;refine aC (by rw[<-hp];exact irreducible (p:=p) byO byO) ?_;rintro v H3 ⟨rfl,b,rfl,hbb⟩;refine aA ?_;refine aK ?_;refine⟨Ext.app _ _,b,by simp[aM],?_⟩;rw[hbb];constructor
  ·intro hi
   exact⟨⟨Q,p⟩,.inr ⟨by simp;omega,by simp;omega,hc,hQ.symm,hi⟩,by simp;omega,by simp;omega,by show ch=((if p=0 then Q else 2:Nat):Int);rw[if_neg byO];omega⟩
  ·rintro⟨f,hf,h1,h2,h3⟩
   rcases hf with ⟨e0,_⟩|⟨_,_,_,_,hi⟩
   ·omega
   ·have:f.poly=p:=byO
    rw[<-this];exact hi
 ·have hcc:¬ (ch=2/\sz=(Q:Int)):=by
   rintro⟨h1,h2⟩;simp[h1,h2,hp]at h
  refine aA ?_;refine aK ?_;refine⟨Ext.app _ _,false,by simp[aM],?_⟩;simp only[ah₀,false_iff];rintro⟨f,hf,h1,h2,h3⟩;apply hcc;rcases hf with ⟨e0,_⟩|⟨e0,_,_,e4,_⟩
  ·omega
  ·have:f.poly=p:=byO
   rw[this,hQ]at e4;unfold FD.ch at h3;rw[if_neg e0]at h3;omega
end Go.Proofs.YtmnlgdpdgjbfgaaGreat
namespace Go.Proofs.YtmnlgdpdgjbfgaaGreat
open Go.Abs Go.RS
theorem fC{p:Int->Bool}{l:List Int}{i:Nat}(h:i<l.length):(l.take (i+1)).all p=((l.take i).all p&&p (l.getD i 0)):=by
 rw[List.take_add_one,bc₀ h,List.all_append,au₀,bc₀ h];simp
def inF(sz:Int)(l:List Int):Bool:=l.all fun x=>!(decide (x<0) || decide (sz<=x))
theorem iV{sz:Int}{l:List Int}:inF sz l=true↔∀x ∈ l,0<=x/\x<sz:=by
 unfold inF;rw[List.all_eq_true];constructor
 ·intro h x hx
  have:=h x hx;simp at this;omega
 ·intro h x hx
  have:=h x hx;simp;omega
namespace XGc
def xtr:=zzi @Int.cast_ofNat_Int (zzi @NP (zzi @kf (zzi @ke (zzi @kc @fv.eq_1))))
end XGc
open XGc
theorem has{lo:Nat}{H:Heap}{ch sz po:Int}{v:Value}{l:List Int}(hb:po<=9223372036854775807)(hl:SlI H v l)(hll:l.length<=1000000000):Ev cp lo 108 [fv ch sz po,v] H (fun v H'=>Ext H H'/\∃b,v=.bool b/\(b=true↔(∃f,OkF ch sz po f)/\inF sz l=true)):=by
 have hl0:=hl;obtain⟨ad,c,rfl⟩:=hl.len;unfold fv;refine stG rfl rfl ?_;unfold Kj;simp only[kB,aD];refine aA ?_;refine aT ?_;refine aC (valid (ch:=ch) (sz:=sz) (po:=po) hb) ?_;rintro v H1 ⟨hx1,b,rfl,hbv⟩;have g0:H1.get H.length=some _:=hx1.get aN;have hx1:=hx1.of_app;have hl1:=Heap.get_lt g0;(try simp only[aD]);refine aP ?_ ?_<;>intro h
 ·have hbf:b=false:=by simpa using h
  clear h;subst hbf;refine aA ?_;refine aK ?_;exact⟨hx1,false,rfl,by simp at hbv ⊢;intro f hf;exact absurd hf (hbv f)⟩
 have hbt:b=true:=by simpa using h
 clear h;subst hbt;have hv:=hbv.1 rfl;refine aA ?_;refine aS (fun i S H'=>H1=H'/\inF sz (l.take i)=true/\∃(z:Nat->Value),S=[z 0,z 1,.pointer (some ⟨H.length,0,none⟩),.bool false,z 4,z 5,.slice ad l.length c,.int .i64 (l.length:Nat),.int .i64 (i:Nat)]) l.length ?_ ?_ ?_ ?_
 ·exact⟨rfl,rfl,aH rfl⟩
 ·rintro i S H' hi ⟨rfl,-,z,rfl⟩
  exact⟨_,aN,by simp⟩
 ·rintro i S H' hi ⟨rfl,hin,z,rfl⟩
  obtain⟨b,o,sp,cap,xs,e,g,hat,hxl⟩:=hl0.els 0 byO;cases e;have g:=hx1.get g;have hati:=hat i hi;have hs:=fC (p:=fun x=>!(decide (x<0) || decide (sz<=x))) hi;clear hat;refine aA ?_;refine aP ?_ ?_<;>intro h
  ·have hno:¬ inF sz l=true:=by
    intro hin2;have:=iV.1 hin2 (l.getD i 0) (by rw[au₀,bc₀ hi];exact List.getElem_mem hi);simp at h;simp at this;omega
   clear h hs;refine aA ?_;refine aK ?_;exact⟨hx1,false,rfl,by simp[hno]⟩
  ·have hin2:inF sz (l.take (i+1))=true:=by
    unfold inF at hin ⊢;rw[hs,hin,h];rfl
   clear h hs;refine aA ?_;exact⟨by trivial,hin2,aH ncM⟩
 ·rintro S H' ⟨rfl,hin,z,rfl⟩
  rw[List.take_of_length_le (Nat.le_refl _)]at hin;refine aA ?_;refine aK ?_;exact⟨hx1,true,rfl,by simp only[true_iff];exact⟨hv,hin⟩⟩
theorem qx{b:Nat}(hb:b<2^63):IntKind.i64.wrap ((BitVec.ofInt IntKind.i64.bits (b:Int) &&& BitVec.ofInt IntKind.i64.bits 1).toNat:Int)=((b%2:Nat):Int):=by
 rw[show IntKind.i64.bits=64 from rfl,BitVec.toNat_and,BitVec.ofInt_natCast,show BitVec.ofInt 64 1=BitVec.ofNat 64 1 by rfl,BitVec.toNat_ofNat,BitVec.toNat_ofNat,Nat.mod_eq_of_lt byO];show IntKind.i64.wrap ((b &&& 1:Nat):Int)=_;rw[Nat.and_one_is_mod,kM byO byO]
theorem NW(a b:Nat):cl a b=(if b%2=1 then a else 0) ^^^ cl (2*a) (b/2):=by
 have e:b=(b%2) ^^^ ((b/2) <<< 1):=by
  apply Nat.eq_of_testBit_eq;intro i;rw[Nat.testBit_xor,Nat.testBit_shiftLeft];cases i with
  | zero=>simp
  | succ i=>
   have:(b%2).testBit (i+1)=false:=Nat.testBit_lt_two_pow (by have:=Nat.mod_lt b (show 2>0 by omega);have:2^1<=2^(i+1):=Nat.pow_le_pow_right byO byO;omega);rw[this];simp[Nat.testBit_add_one]
 have e2:cl a ((b/2) <<< 1)=cl (2*a) (b/2):=by
  rw[<-gP,iQ (b/2),<-jo,gP,Nat.shiftLeft_eq,bb₀]
 conv=>lhs;rw[e]
 rw[jd,e2];congr 1;split
 ·rename_i h;rw[h,vO]
 ·rename_i h;rw[show b%2=0 by omega,fw]
theorem dbl{P a:Nat}(hP:2<=P)(ha:a<2^P.log2):rm (2*a) P=(if 2^P.log2<=2*a then 2*a ^^^ P else 2*a)/\(if 2^P.log2<=2*a then 2*a ^^^ P else 2*a)<2^P.log2:=by
 have hP0:P≠0:=byO;split
 ·rename_i h
  have hlt:2*a ^^^ P<2^P.log2:=by
   have hl:(2*a).log2=P.log2:=lU h (by rw[Nat.pow_succ];omega);have h0:2*a≠0:=by have:0<2^P.log2:=Nat.pow_pos byO;omega
   have:=A4 hP0 h0 byO;rw[hl,Nat.sub_self]at this;simpa using this
  refine⟨uk hP0 hlt (m:=1) ?_,hlt⟩;rw[vO,Nat.xor_comm,Nat.xor_assoc,Nat.xor_self,Nat.xor_zero]
 ·rename_i h
  exact⟨ic hP0 byO,byO⟩
theorem product{lo:Nat}{H:Heap}{f:FD}(hf:f.Ok){a b:Nat}(ha:a<f.q)(hb:b<f.q):Ev cp lo 162 [fvf f,.int .i64 a,.int .i64 b] H (fun v H'=>Ext H H'/\v=.int .i64 (eH f a b:Nat)):=by
 have h2:=hf.two;unfold fvf fv;refine stG rfl rfl ?_;unfold LS;simp only[kB,aD];refine aA ?_;refine aP ?_ ?_<;>intro h
 ·have hp:f.poly=0:=by simp at h;omega
  clear h;have hm:=vk (a:=(a:Int)) (b:=(b:Int)) (A:=4096) (B:=4096) byO byO byO byO byO;have hmod:((a:Int)*(b:Int)).tmod (f.q:Int)=((a*b%f.q:Nat):Int):=by
   rw[<-Int.natCast_mul,Int.tmod_eq_emod_of_nonneg byO];rfl
  refine aA ?_;refine aK ?_;refine⟨Ext.app _ _,?_⟩;unfold eH;rw[if_pos hp];rfl
 have hp:f.poly≠0:=by simp at h;omega
 clear h;rcases hf with ⟨e,_⟩|⟨_,hP,hP12,hq,hi⟩
 ·exact absurd e hp
 replace hq:=hq.symm;have hpb:f.poly<2^13:=bd₀ (cV f.poly) (Nat.pow_le_pow_right byO byO);have hfm:eH f a b=rm (cl a b) f.poly:=by unfold eH;rw[if_neg hp]
 rw[hfm];clear hfm;generalize hG:H++[some [Value.int .i64 (FD.ch f:Nat),Value.int .i64 (f.q:Nat),Value.int .i64 (f.poly:Nat)]]=G at *;have g0:G.get H.length=some [Value.int .i64 (FD.ch f:Nat),Value.int .i64 (f.q:Nat),Value.int .i64 (f.poly:Nat)]:=by rw[<-hG];exact aF
 have hxG:Ext H G:=by rw[<-hG];exact Ext.app _ _
 clear hG;refine aA ?_;refine aY (fun m S H'=>∃(x y s:Nat) (z0:Value),x<f.q/\y<f.q/\s<f.q/\m=y/\G=H'/\s ^^^ rm (cl x y) f.poly=rm (cl a b) f.poly/\S=[z0,.int .i64 (x:Nat),.int .i64 (y:Nat),.pointer (some ⟨H.length,0,none⟩),.int .i64 0,.int .i64 (s:Nat)]) b ?_ ?_
 ·exact⟨a,b,0,_,ha,hb,byO,rfl,rfl,by rw[Nat.zero_xor],rfl⟩
 rintro m S H' ⟨x,y,s,z0,hx,hy,hs,rfl,rfl,hinv,rfl⟩;(try simp only[aD]);refine aP ?_ ?_<;>intro h
 ·have hm0:0<m:=by simpa using h
  clear h;have a1:=qx (b:=m) byO;have a2:=mV m 1 .i64 (by decide);have a3:=kr (a:=x) (k:=1) byO byO;have a4:=ig (a:=s) (b:=x) byO byO;have a5:=ig (a:=x <<< 1) (b:=f.poly) (by rw[Nat.shiftLeft_eq];omega) byO;have e1:x <<< 1=2*x:=by rw[Nat.shiftLeft_eq];omega
  rw[e1]at a3 a5;have hd:=dbl hP (a:=x) (by rw[hq];exact hx);rw[hq]at hd;have hc2:=NW x m;have i1:(Int.toNat 1)=1:=rfl;have hsx:s ^^^ x<f.q:=by rw[<-hq];exact Nat.xor_lt_two_pow (by rw[hq];exact hs) (by rw[hq];exact hx)
  clear e1;(try simp only[aD]);refine eG (fun S' H'=>G=H'/\∃(z0:Value),S'=[z0,.int .i64 (x:Nat),.int .i64 (m:Nat),.pointer (some ⟨H.length,0,none⟩),.int .i64 0,.int .i64 ((if m%2=1 then s ^^^ x else s:Nat):Int)]) ?_ ?_
  ·refine aP ?_ ?_<;>intro h
   ·have ho:m%2=1:=by simp at h;omega
    clear h;refine aA ?_;exact⟨by trivial,_,by rw[if_pos ho]⟩
   ·have ho:¬ m%2=1:=by simp at h;omega
    clear h;(try simp only[aD]);exact⟨by trivial,_,by rw[if_neg ho]⟩
  rintro S' H' ⟨rfl,z0,rfl⟩;generalize hsE:(if m%2=1 then s ^^^ x else s:Nat)=s';have hs':s'<f.q:=by rw[<-hsE];split<;>assumption
  refine aA ?_;refine c8 (fun S' H'=>G=H'/\∃(z0:Value),S'=[z0,.int .i64 ((if f.q<=2*x then 2*x ^^^ f.poly else 2*x:Nat):Int),.int .i64 (m:Nat),.pointer (some ⟨H.length,0,none⟩),.int .i64 0,.int .i64 (s':Nat)]) ?_ ?_
  ·refine aP ?_ ?_<;>intro h
   ·have ho:f.q<=2*x:=by simp at h;omega
    clear h;refine aA ?_;exact⟨by trivial,_,by rw[if_pos ho]⟩
   ·have ho:¬ f.q<=2*x:=by simp at h;omega
    clear h;(try simp only[aD]);exact⟨by trivial,_,by rw[if_neg ho]⟩
  rintro S' H' ⟨rfl,z0,rfl⟩;obtain⟨hd1,hd2⟩:=hd;generalize (if f.q<=2*x then 2*x ^^^ f.poly else 2*x:Nat)=x' at *;refine aA ?_;simp only[ak];refine⟨m/2,byO,x',m/2,s',_,hd2,byO,hs',rfl,by trivial,?_,by first|rfl|(simp only[i1,a2];rfl)⟩;rw[<-hinv,hc2,Gt hp,<-wV hp (2*x),hd1,<-hsE];split
  ·rw[ic (r:=x) hp (by rw[hq];exact hx),Nat.xor_assoc]
  ·rw[ic (r:=0) hp (Nat.pow_pos byO),Nat.zero_xor]
 ·have hm0:m=0:=by simp at h;omega
  clear h;rw[hm0,fw,ic hp (Nat.pow_pos byO),Nat.xor_zero]at hinv;refine aA ?_;refine aK ?_;exact⟨hxG,by rw[<-hinv];rfl⟩
end Go.Proofs.YtmnlgdpdgjbfgaaGreat
namespace Go.Proofs.YtmnlgdpdgjbfgaaGreat
open Go.Abs Go.RS
variable{H:Heap}{lo:Nat}
namespace XGd
def xtr:=zzi @Int.cast_ofNat_Int (zzi @NP (zzi @kf (zzi @ke (zzi @kc (zzi @fv.eq_1 @fvf.eq_1)))))
end XGd
open XGd
theorem order{f:FD}(hf:f.Ok){a:El f}{n:Nat}(hn:@Ord (El f) hf.fd a n)(hn2:n<=f.q):Ev cp lo 192 [fvf f,.int .i64 (a.val:Nat)] H (fun v H'=>Ext H H'/\v=.int .i64 n):=by
 have h2:=hf.two
 letI:=hf.fd
 unfold fvf fv;refine stG rfl rfl ?_;unfold L7;simp only[kB,aD];refine aA ?_;generalize hG:H++[some [Value.int .i64 (FD.ch f:Nat),Value.int .i64 (f.q:Nat),Value.int .i64 (f.poly:Nat)]]=G at *;have g0:G.get H.length=some [Value.int .i64 (FD.ch f:Nat),Value.int .i64 (f.q:Nat),Value.int .i64 (f.poly:Nat)]:=by rw[<-hG];exact aF
 have hxG:Ext H G:=by rw[<-hG];exact Ext.app _ _
 clear hG;refine aY (fun m S H'=>∃(k x:Nat) (z0 z6:Value),1<=k/\k<=n/\m=n-k/\(pw a k).val=x/\Ext H H'/\H'.get H.length=some [Value.int .i64 (FD.ch f:Nat),Value.int .i64 (f.q:Nat),Value.int .i64 (f.poly:Nat)]/\S=[z0,.int .i64 (a.val:Nat),.pointer (some ⟨H.length,0,none⟩),.int .i64 0,.int .i64 (k:Nat),.int .i64 (x:Nat),z6]) (n-1) ?_ ?_
 ·exact⟨1,a.val,_,_,byO,hn.1,rfl,by rw[p9],hxG,g0,rfl⟩
 clear g0 hxG;rintro m S H1 ⟨k,x,z0,z6,hk1,hkn,rfl,hx,hx1,g0,rfl⟩;have hone:(1:El f).val=1:=rfl;have hxl:x<f.q:=by rw[<-hx];exact(pw a k).lt
 (try simp only[aD]);refine aP ?_ ?_<;>intro h
 ·have hne:x≠1:=by simp at h;omega
  clear h;have hlt:k<n:=by
   apply Decidable.byContradiction;intro hc;have:k=n:=byO;rw[this,hn.2.1,hone]at hx;exact hne hx.symm
  refine aA ?_;refine aT ?_;refine aC (product hf hxl a.lt) ?_;rintro v H2 ⟨hx2,rfl⟩;have g0:=hx2.get g0;have hx2:=hx1.trans hx2;have hmul:eH f x a.val=(pw a (k+1)).val:=by rw[<-hx];rfl
  refine aA ?_;simp only[ak];exact⟨n-(k+1),byO,k+1,(pw a (k+1)).val,_,_,byO,byO,rfl,rfl,hx2,g0,by rw[<-hmul];simp only[ap₀,Int.natCast_one];rfl⟩
 ·have he:x=1:=by simp at h;omega
  clear h;have hkk:k=n:=by
   apply Decidable.byContradiction;intro hc;apply hn.2.2 k byO byO;apply El.ext;rw[hx,he];rfl
  refine aA ?_;refine aK ?_;exact⟨hx1,by rw[<-hkk];rfl⟩
structure Gn {f:FD}(hf:f.Ok)(g:El f):Prop where
 pos:1<=g.val
 ord:@Ord (El f) hf.fd g (f.q-1)
 min:∀x:El f,1<=x.val->x.val<g.val->¬ @Ord (El f) hf.fd x (f.q-1)
theorem Cu{f:FD}(hf:f.Ok){g:El f}(hg:Gn hf g):Ev cp lo 161 [fvf f] H (fun v H'=>Ext H H'/\v=.int .i64 (g.val:Nat)):=by
 have h2:=hf.two;have hgl:=g.lt;unfold fvf fv;refine stG rfl rfl ?_;unfold LR;simp only[kB,aD];refine aA ?_;generalize hG:H++[some [Value.int .i64 (FD.ch f:Nat),Value.int .i64 (f.q:Nat),Value.int .i64 (f.poly:Nat)]]=G at *;have g0:G.get H.length=some [Value.int .i64 (FD.ch f:Nat),Value.int .i64 (f.q:Nat),Value.int .i64 (f.poly:Nat)]:=by rw[<-hG];exact aF
 have hxG:Ext H G:=by rw[<-hG];exact Ext.app _ _
 clear hG;have hgp:=hg.pos;refine aY (fun m S H'=>∃(k:Nat) (z0 z4 z5:Value),1<=k/\k<=g.val/\m=g.val-k/\Ext H H'/\H'.get H.length=some [Value.int .i64 (FD.ch f:Nat),Value.int .i64 (f.q:Nat),Value.int .i64 (f.poly:Nat)]/\S=[z0,.pointer (some ⟨H.length,0,none⟩),.int .i64 0,.int .i64 (k:Nat),z4,z5]) (g.val-1) ?_ ?_
 ·exact⟨1,_,_,_,byO,byO,rfl,hxG,g0,rfl⟩
 clear g0 hxG;rintro m S H1 ⟨k,z0,z4,z5,hk1,hkn,rfl,hx1,g0,rfl⟩;obtain⟨n,hn,hnq⟩:∃n,@Ord (El f) hf.fd ⟨k,byO⟩ n/\n<=f.q-1:=by
  letI:=hf.fd
  refine hf.num.ord ⟨k,byO⟩ (fun e=>?_);have:k=0:=congrArg El.val e;omega
 have hnq2:n<=f.q-1:=hnq;refine bF ?_;refine bS (order hf hn byO) ?_;rintro v H2 ⟨hx2,rfl⟩;have g0:=hx2.get g0;have hx2:=hx1.trans hx2;(try simp only[aD]);refine aP ?_ ?_<;>intro h
 ·have hne:n≠f.q-1:=by simp at h;omega
  clear h;have hlt:k<g.val:=by
   apply Decidable.byContradiction;intro hc;have hkg:(⟨k,byO⟩:El f)=g:=El.ext (by show k=g.val;omega);rw[hkg]at hn;have h1:=@qn (El f) hf.fd g n (f.q-1) hn hg.ord.2.1;have h3:=@qn (El f) hf.fd g (f.q-1) n hg.ord hn.2.1;exact hne (Nat.dvd_antisymm h1 h3)
  refine aA ?_;simp only[ak];exact⟨g.val-(k+1),byO,k+1,_,_,_,byO,byO,rfl,hx2,g0,ncM⟩
 ·have he:n=f.q-1:=by simp at h;omega
  clear h;have hkk:k=g.val:=by
   apply Decidable.byContradiction;intro hc;rw[he]at hn;exact hg.min ⟨k,byO⟩ hk1 (by show k<g.val;omega) hn
  refine aA ?_;refine aK ?_;exact⟨hx2,by rw[<-hkk];rfl⟩
theorem kA{f:FD}(hf:f.Ok):∃f',OkF (FD.ch f) f.q f.poly f':=⟨f,hf,rfl,rfl,rfl⟩
theorem j4{f:FD}(hf:f.Ok):(f.poly:Int)<=9223372036854775807:=by
 rcases hf with ⟨e,_⟩|⟨_,hP,hP12,hq,hi⟩
 ·omega
 ·have hpb:f.poly<2^13:=bd₀ (cV f.poly) (Nat.pow_le_pow_right byO byO)
  omega
theorem nm{f:FD}(hf:f.Ok){g:El f}(hg:Gn hf g):Ev cp lo 114 [fvf f] H (fun v H'=>Ext H H'/\v=.tuple #[.int .i64 (g.val:Nat),.int .i64 0]):=by
 unfold fvf fv;refine stG rfl rfl ?_;unfold Kp;simp only[kB,aD];refine aA ?_;refine aT ?_;refine aC (has (ch:=FD.ch f) (sz:=f.q) (po:=f.poly) (l:=[]) (j4 hf) (.inl ⟨rfl,rfl⟩) (by simp)) ?_;rintro v H1 ⟨hx1,b,rfl,hb⟩;have g0:H1.get H.length=some _:=hx1.get aN;have hx1:=hx1.of_app;have hbt:b=true:=hb.2 ⟨kA hf,rfl⟩;subst hbt;(try simp only[aD]);refine an ?_;refine bF ?_;refine aC (Cu hf hg) ?_;rintro v H2 ⟨hx2,rfl⟩;refine aA ?_;refine aK ?_;exact⟨hx1.trans hx2,rfl⟩
theorem B0{q a b:Nat}(ha:a<q)(hb:b<q):inF q [(a:Int),(b:Int)]=true:=by
 rw[iV];intro x hx;simp at hx;rcases hx with rfl|rfl<;>omega
theorem EJ{f:FD}(hf:f.Ok){a b:Nat}(ha:a<f.q)(hb:b<f.q):Ev cp lo 115 [fvf f,.int .i64 a,.int .i64 b] H (fun v H'=>Ext H H'/\v=.tuple #[.int .i64 (eH f a b:Nat),.int .i64 0]):=by
 unfold fvf fv;refine stG rfl rfl ?_;unfold Kq;simp only[kB,aD];refine aA ?_;refine aT ?_;refine aC (has (ch:=FD.ch f) (sz:=f.q) (po:=f.poly) (l:=[(a:Int),(b:Int)]) (j4 hf) (.inr ⟨_,0,none,_,_,rfl,bC,rfl,by simp,.inl rfl,by simp⟩) (by simp)) ?_;rintro v H1 ⟨hx1,bb,rfl,hbb⟩;have g0:H1.get H.length=some _:=hx1.get aN;have hx1:=hx1.of_app;have hbt:bb=true:=hbb.2 ⟨kA hf,B0 ha hb⟩;subst hbt;(try simp only[aD]);refine an ?_;refine bF ?_;refine aC (product hf ha hb) ?_;rintro v H2 ⟨hx2,rfl⟩;refine aA ?_;refine aK ?_;exact⟨hx1.trans hx2,rfl⟩
def qW(f:FD)(a b:Nat):Nat:=if f.poly=0 then(a+f.q-b)%f.q else a ^^^ b
theorem vV{f:FD}(hf:f.Ok){a b:Nat}(ha:a<f.q)(hb:b<f.q):qW f a b=fj f a (tO f b):=by
 unfold qW fj tO;split
 ·rw[Nat.add_mod_mod,show a+(f.q-b)=a+f.q-b by omega]
 ·rfl
theorem CN{f:FD}{a b:Nat}(h2:2<=f.q)(ha:a<f.q)(hb:b<f.q):((a:Int)-b+f.q).tmod (f.q:Int)=(((a+f.q-b)%f.q:Nat):Int):=by
 rw[Int.tmod_eq_emod_of_nonneg byO,show(a:Int)-b+f.q=((a+f.q-b:Nat):Int) by omega];rfl
theorem NB{f:FD}(hf:f.Ok){a b:Nat}(ha:a<f.q)(hb:b<f.q):Ev cp lo 63 [fvf f,.int .i64 a,.int .i64 b] H (fun v H'=>Ext H H'/\v=.tuple #[.int .i64 (qW f a b:Nat),.int .i64 0]):=by
 have h2:=hf.two;unfold fvf fv;refine stG rfl rfl ?_;unfold Q3;simp only[kB,aD];refine aA ?_;refine aT ?_;refine aC (has (ch:=FD.ch f) (sz:=f.q) (po:=f.poly) (l:=[(a:Int),(b:Int)]) (j4 hf) (.inr ⟨_,0,none,_,_,rfl,bC,rfl,by simp,.inl rfl,by simp⟩) (by simp)) ?_;rintro v H1 ⟨hx1,bb,rfl,hbb⟩;have g0:H1.get H.length=some _:=hx1.get aN;have hx1:=hx1.of_app;have hbt:bb=true:=hbb.2 ⟨kA hf,B0 ha hb⟩;subst hbt;(try simp only[aD]);refine an ?_;have e1:=ig (a:=a) (b:=b) byO byO;have e2:=CN h2.1 ha hb;(try simp only[aD]);refine aP ?_ ?_<;>intro h
 ·have hp:¬ f.poly=0:=by simp at h;omega
  clear h;refine aA ?_;refine aK ?_;refine⟨hx1,?_⟩;unfold qW;rw[if_neg hp];rfl
 ·have hp:f.poly=0:=by simp at h;omega
  clear h;refine aA ?_;refine aK ?_;refine⟨hx1,?_⟩;unfold qW;rw[if_pos hp];rfl
open Go.Abs Go.RS
section
variable {f:FD}[OkC f]
theorem oN{g:El f}(h:Gn (OkC.ok (f:=f)) g):g≠0:=fun e=>by
 have h1:=h.pos;rw[e,CW]at h1;omega
theorem iD{g:El f}(h:Gn (OkC.ok (f:=f)) g):Ord g (f.q-1):=h.ord
theorem qle:2<=f.q/\f.q<=4096:=(OkC.ok (f:=f)).two
structure ArH (H:Heap)(g:El f)(be bl:Nat):Prop where
 ex:∃E:List Int,H.get be=some (aW E)/\E.length=f.q-1/\∀n,n<f.q-1->E.getD n 0=((pw g n).val:Nat)
 lg:∃L:List Int,H.get bl=some (aW L)/\L.length=f.q/\∀n,n<f.q-1->L.getD (pw g n).val 0=(n:Nat)
theorem ArH.mono{H H':Heap}{g:El f}{be bl:Nat}(h:ArH H g be bl)(e:Ext H H'):ArH H' g be bl:=by
 obtain⟨⟨E,a,b⟩,⟨L,c,d⟩⟩:=h;exact⟨⟨E,e.get a,b⟩,⟨L,e.get c,d⟩⟩
theorem ArH.lt{H:Heap}{g:El f}{be bl:Nat}(h:ArH H g be bl):be<H.length/\bl<H.length:=by
 obtain⟨⟨E,a,b⟩,⟨L,c,d⟩⟩:=h;exact⟨Heap.get_lt a,Heap.get_lt c⟩
theorem ArH.keep{b:Nat}{H H':Heap}{g:El f}{be bl:Nat}(h:ArH H g be bl)(e:Keep b H H')(h1:be≠b)(h2:bl≠b):ArH H' g be bl:=by
 obtain⟨⟨E,a,b⟩,⟨L,c,d⟩⟩:=h;exact⟨⟨E,e.get a h1,b⟩,⟨L,e.get c h2,d⟩⟩
end
def arC(f:FD)(be bl:Nat):List Value:=[.int .i64 (FD.ch f:Nat),.int .i64 (f.q:Nat),.slice (some ⟨be,0,none⟩) (f.q-1) (f.q-1),.slice (some ⟨bl,0,none⟩) f.q f.q]
def arV(f:FD)(be bl:Nat):Value:=.agg #[.int .i64 (FD.ch f:Nat),.int .i64 (f.q:Nat),.slice (some ⟨be,0,none⟩) (f.q-1) (f.q-1),.slice (some ⟨bl,0,none⟩) f.q f.q]
theorem vK{f:FD}(hf:f.Ok):FD.ch f=2↔f.poly≠0:=by
 unfold FD.ch;rcases hf with ⟨e,h1,_⟩|⟨e,_⟩
 ·rw[if_pos e];simp[e];omega
 ·rw[if_neg e];simp[e]
theorem gG{l:List Int}{i:Nat}{v:Int}(h:i<l.length):(l.set i v).getD i 0=v:=by
 rw[au₀,List.getElem?_set_self h];rfl
theorem iU{l:List Int}{i j:Nat}{v:Int}(h:i≠j):(l.set i v).getD j 0=l.getD j 0:=by
 rw[au₀,List.getElem?_set_ne h,<-au₀]
end Go.Proofs.YtmnlgdpdgjbfgaaGreat
namespace Go.Proofs.YtmnlgdpdgjbfgaaGreat
open Go.Abs Go.RS
variable{H:Heap}{lo:Nat}{v:Value}
section
variable {f:FD}[OkC f]
namespace XArR
def xtr:=zzi @Int.cast_ofNat_Int (zzi @fv.eq_1 @fvf.eq_1)
end XArR
open XArR
set_option maxHeartbeats 1000000 in
theorem DP{g:El f}(hlo:lo<=H.length)(hg:Gn (OkC.ok (f:=f)) g):Ev cp lo 71 [fvf f] H (fun v H'=>Ext H H'/\∃be bl,H.length<=be/\H.length<=bl/\v=arV f be bl/\ArH H' g be bl):=by
 have h2:=qle (f:=f);have hinj:=wR (oN hg) (iD hg);unfold fvf fv;refine stG rfl rfl ?_;unfold Qb;simp only[kB,aD];refine aA ?_;refine aT ?_;refine aC (nm (OkC.ok (f:=f)) hg) ?_;rintro v H1 ⟨hx1,rfl⟩;have g0:H1.get H.length=some _:=hx1.get aN;have g1:H1.get (H.length+1)=some _:=hx1.get aN;have hx1:=hx1.of_app;have hl1:=Heap.get_lt g1;have hq1:((f.q:Int)-1).toNat=f.q-1:=byO;refine aA ?_;generalize hM:H1.length=M at *;refine aS (fun i S H'=>Ext H H'/\M+2<H'.length/\H'.get H.length=some [.int .i64 (FD.ch f:Nat),.int .i64 (f.q:Nat),.int .i64 (f.poly:Nat)]/\H'.get (H.length+1)=some [.int .i64 0,.int .i64 0,.slice none 0 0,.slice none 0 0]/\H'.get (M+2)=some (arC f M (M+1)) /\
  ∃E L:List Int,H'.get M=some (aW E)/\H'.get (M+1)=some (aW L)/\E.length=f.q-1/\L.length=f.q/\(∀k,k<i->E.getD k 0=((pw g k).val:Nat))/\(∀k,k<i->L.getD (pw g k).val 0=(k:Nat))/\∃(z:Nat->Value),S=[z 0,.pointer (some ⟨H.length,0,none⟩),.pointer (some ⟨H.length+1,0,none⟩),.int .i64 (g.val:Nat),.pointer (some ⟨M+2,0,none⟩),.int .i64 ((pw g i).val:Nat),z 6,z 7,z 8,z 9,z 10,z 11,z 12,z 13,.int .i64 ((f.q-1:Nat):Int),.int .i64 (i:Nat),z 16,z 17,z 18,z 19,z 20,z 21]) (f.q-1) ?_ ?_ ?_ ?_
 ·refine⟨hx1.trans (Ext.app _ _),by simp;omega,by simp(disch:=try exact dO)only[evB,xtr,Nat.reduceAdd,Nat.reduceBEq,Int.reduceToNat, *],by simp(disch:=try exact dO)only[evB,xtr,Nat.reduceAdd,Nat.reduceBEq,Int.reduceToNat, *],?_,List.replicate (f.q-1) 0,List.replicate f.q 0,?_,?_,by simp,by simp,by omega,by omega,aH rfl⟩
  ·rw[<-hM,bC];rfl
  ·rw[<-hM,aF]
  ·rw[<-hM,bC];rfl
 ·rintro i S H' hi ⟨hx,hl,f0,f1,f2,E,L,fE,fL,hE,hL,hEa,hLa,z,rfl⟩
  exact⟨_,aN,by simp⟩
 ·rintro i S H2 hi ⟨hx,hl,f0,f1,f2,E,L,fE,fL,hE,hL,hEa,hLa,z,rfl⟩
  unfold arC at f2;have hxv:=(pw g i).lt;have hE2:E.length<=f.q-1/\f.q-1<=E.length:=byO;have hL2:L.length<=f.q/\f.q<=L.length:=byO;have hnat:((i:Nat):Int)<((f.q-1:Nat):Int):=byO;clear hE hL;refine aA ?_;refine At aN aN (.inr (by simp[ae])) ?_;refine bF ?_;have hEx:Ext H (List.set (List.set H2 M (some (aW (E.set i ↑(pw g i).val)))) (M+1) (some (aW (L.set (pw g i).val ↑i)))):=(hx.set byO).set byO;refine aC (EJ (f:=f) (OkC.ok (f:=f)) hxv g.lt) ?_;rintro v H3 ⟨hx3,rfl⟩;have hmul:eH f (pw g i).val g.val=(pw g (i+1)).val:=rfl;have f0:=hx3.get (i:=H.length) (by rw[aI byO,aI byO];exact f0);have f1:=hx3.get (i:=H.length+1) (by rw[aI byO,aI byO];exact f1);have f2:=hx3.get (i:=M+2) (by rw[aI byO,aI byO];exact f2);have fE:=hx3.get (i:=M) (by rw[aI byO,aG byO]);have fL:=hx3.get (i:=M+1) (by rw[aG (by simp;omega)]);have hl3:=Heap.get_lt f2;have hx3:=hEx.trans hx3;refine aA ?_;refine⟨hx3,hl3,f0,f1,f2,_,_,fE,fL,by simp;omega,by simp;omega,fun k hk=>?_,fun k hk=>?_,aH ncM⟩
  ·by_cases e:k=i
   ·subst e;rw[gG byO]
   ·rw[iU (fun h=>e h.symm)];exact hEa k byO
  ·by_cases e:k=i
   ·subst e;rw[gG byO]
   ·rw[iU (fun h=>e (hinj k i byO hi (El.ext h.symm)))];exact hLa k byO
 ·rintro S H2 ⟨hx,hl,f0,f1,f2,E,L,fE,fL,hE,hL,hEa,hLa,z,rfl⟩
  unfold arC at f2;refine aA ?_;refine aK ?_;exact⟨hx.set byO,M,M+1,byO,byO,rfl,⟨E,by rw[aI byO];exact fE,hE,hEa⟩,⟨L,by rw[aI byO];exact fL,hL,hLa⟩⟩
theorem PH{be bl:Nat}{g:El f}(hg:Gn (OkC.ok (f:=f)) g)(ha:ArH H g be bl)(n:Nat)(hn:n<=1000000000000):Ev cp lo 103 [arV f be bl,.int .i64 n] H (fun v H'=>Ext H H'/\v=.int .i64 ((pw g n).val:Nat)):=by
 have h2:=qle (f:=f);have hbl:=ha.lt;obtain⟨⟨E,gE,hE,hEa⟩,_⟩:=ha;have hml:n%(f.q-1)<f.q-1:=Nat.mod_lt _ byO;have hev:=hEa _ hml;have hmod:(n:Int).tmod ((f.q:Int)-1)=((n%(f.q-1):Nat):Int):=by
  rw[Int.tmod_eq_emod_of_nonneg byO,show((f.q:Int)-1)=((f.q-1:Nat):Int) by omega];rfl
 have hE2:E.length<=f.q-1/\f.q-1<=E.length:=byO;clear hE hEa;rw[<-wS (iD hg).2.1 n];unfold arV;refine stG rfl rfl ?_;unfold Kf;simp only[kB,aD];refine aA ?_;refine aK ?_;exact⟨Ext.app _ _,rfl⟩
end
open Go.Abs Go.RS
section
variable {f:FD}[OkC f]
def pL(x:El f):Value:=.int .i64 (x.val:Nat)
def elL(l:List (El f)):List Value:=l.map pL
abbrev SlE(H:Heap)(v:Value)(l:List (El f)):Prop:=Sl (pL (f:=f)) H v l
theorem ea(l:List (El f)):(elL l).length=l.length:=by simp[elL]
theorem nI{l:List (El f)}{i:Nat}(h:i<l.length):(elL l)[i]?=some (.int .i64 ((l.getD i 0).val:Nat)):=by
 grind[elL,pL]
theorem jB(l:List (El f))(i:Nat)(v:El f):(elL l).set i (.int .i64 (v.val:Nat))=elL (l.set i v):=by grind[elL,pL,List.map_set]
theorem kx(n:Nat):aW (List.replicate n 0)=elL (List.replicate n (0:El f)):=by
 simp[elL,aW,pL,CW]
theorem gV{l:List (El f)}(h:SlE H v l)(hl:0<l.length):∃b o sp cap xs,v=.slice (some ⟨b,o,sp⟩) l.length cap/\H.get b=some xs/\(∀i,i<l.length->xs[o+i]?=some (.int .i64 ((co l i).val:Nat)))/\o+l.length<=xs.length:=by
 obtain⟨b,o,sp,cap,xs,h1,h2,h3,h4⟩:=h.els 0 hl;exact⟨b,o,sp,cap,xs,h1,h2,h3,h4⟩
theorem ei{b n:Nat}{sp:Option Nat}{l:List (El f)}(h:H.get b=some (elL l))(hn:l.length=n)(hsp:sp=none\/sp=some 1:=by first|exact .inl rfl|exact .inr rfl):SlE H (.slice (some ⟨b,0,sp⟩) n n) l:=Sl.whole h hn hsp
namespace XGf
def xtr:=zzi @Int.cast_ofNat_Int (zzi @arC.eq_1 (zzi @nI (zzi @ea (zzi @jB @kx))))
end XGf
open XGf
theorem wa{d:Nat}{c:List Value}(h:H.get d=some c):H.set d (some c)=H:=by
 apply List.ext_getElem (by simp)
 grind[eR]
theorem BM(l:List (El f)):oneCells (elL l)=true:=by grind[elL,pL,oneCells,Value.oneCell']
theorem KW{p D:List (El f)}{d n c:Nat}{R:Value->Heap->Prop}(hlo:lo<=d)(hd:H.get d=some (elL D))(hn:D.length=n)(hp:SlE H v p)(hl:p.length<=D.length)(k:∀w,R w (H.set d (some (elL (p++D.drop p.length))))):wpH cp lo (.cpy 1) [.slice (some ⟨d,0,none⟩) n c,v] H R:=by
 simp only[wpH];rcases hp with ⟨rfl,rfl⟩|⟨b,o,sp,cap,xs,rfl,hb,hx,hlen,-⟩
 ·grind[cK,hsem,wa]
 ·rw[AA hlo,hb,hd]
  have hx2:(xs.drop o).take p.length=elL p:=hx;have hmin:min p.length n*1=p.length:=byO;simp only[hmin,hx2,BM]
  simp_all[putCells,elL]
theorem wz(p:List (El f)){N:Nat}(h:p.length<=N):p++(List.replicate N (0:El f)).drop p.length=tab N (co p):=by
 apply Aj
 all_goals grind[co]
end
open Go.Abs Go.RS
section
variable {f:FD}[OkC f]
theorem dk{H G:Heap}{c:List Value}{L:Heap}(h:H++some c::L=G):G.get H.length=some c/\Ext H G:=by
 subst h;exact⟨aF,Ext.app _ _⟩
def NewV(n:Nat)(v:Value):Prop:=∀b o sp k c,v=.slice (some ⟨b,o,sp⟩) k c->n<=b
theorem NewV.own{lo sz n b:Nat}{H:Heap}{v:Value}{c:List Value}(h:Own lo sz H v b c)(hn:n<=b):NewV n v:=by
 intro b' o sp k c' e;obtain⟨_,⟨rfl,_⟩|⟨m,_,_,rfl,_⟩⟩:=h
 ·cases e
 ·cases e;exact hn
theorem NewV.mk{n b o:Nat}{sp:Option Nat}{k c:Nat}(h:n<=b):NewV n (.slice (some ⟨b,o,sp⟩) k c):=by
 intro b' o' sp' k' c' e;cases e;exact h
theorem NewV.mono{n m:Nat}{v:Value}(h:NewV n v)(hm:m<=n):NewV m v:=fun b o sp k c e=>Nat.le_trans hm (h b o sp k c e)
theorem KN{α:Type}{enc:α->Value}{H H':Heap}{l:List α}{n b:Nat}(h:Sl enc H v l)(hn:NewV n v)(e:Keep b H H')(hb:b<n):Sl enc H' v l:=by
 rcases h with h|⟨b',o,sp,cap,xs,h1,h2,h3⟩
 ·exact .inl h
 ·have:=hn _ _ _ _ _ h1
  exact .inr ⟨b',o,sp,cap,xs,h1,e.get h2 byO,h3⟩
end
def cdC(f:FD)(r b:Nat):List Value:=[.int .i64 (FD.ch f:Nat),.int .i64 (f.q:Nat),.int .i64 (f.poly:Nat),.int .i64 r,.int .i64 b]
def cdV(f:FD)(r b:Nat):Value:=.agg #[.int .i64 (FD.ch f:Nat),.int .i64 (f.q:Nat),.int .i64 (f.poly:Nat),.int .i64 r,.int .i64 b]
end Go.Proofs.YtmnlgdpdgjbfgaaGreat
