/- Lemmas. -/
import Derived.Test.YtmnlgdpdgjbfgaaGreatD18
set_option linter.all false
namespace Go.Proofs.YtmnlgdpdgjbfgaaGreat
open Go.Abs
set_option maxRecDepth 20000
section
variable {A H:Heap}{db:Nat}{wv:Value}{ws:List Nat}{a:Nat}{out:List UInt8}{lo:Nat}
theorem oS(ws:List Nat)(a:Nat):unm ws a<256:=by unfold unm;omega
open XMDc
theorem Ni(hd:DcM A H db wv ws a out)(hlo:lo<=A.length)(hB:out.length+2*(ws.length-a)<=16400):Ev cp lo 140 [ptr db] H (fun r H'=>vy A db wv ws r H' (rW ws a out)):=by
 have hlen:=hd.len;refine stG rfl rfl ?_;unfold IV;simp only[kB,aB];refine aL ?_;refine dh ?_;refine aA (MF hd hlo) ?_;intro r H1 hr;unfold rW;rcases hr with ⟨ha,rfl,hx⟩|⟨ha,rfl,hd1⟩
 ·rw[if_pos ha]
  refine aL ?_;refine aP ?_ ?_<;>intro h
  ·refine aL ?_
   refine bM ?_;exact⟨rfl,hx,byO⟩
  ·simp at h
 rw[if_neg byO];have hnl:=oS ws a;generalize unm ws a=n at hnl ⊢;refine aL ?_;refine aP ?_ ?_<;>intro h
 ·simp at h
 clear h;(try simp only[aB]);by_cases h0:n=0
 ·have hdd:decide ((n:Int)=0)=true:=decide_eq_true byO
  rw[if_pos h0];replace h0:n<=0:=byO;refine aP ?_ ?_<;>intro h
  ·refine aL ?_
   refine bM ?_;exact⟨rfl,hd1.ext,byO⟩
  ·simp at h
 have hdd:decide ((n:Int)=0)=false:=decide_eq_false byO;rw[if_neg h0];refine aP ?_ ?_<;>intro h
 ·simp at h
 clear h hdd;(try simp only[aB]);generalize hR:(if n<250 then oL ws n (a+1) out else if ws.length<=a+1 then .inl 10 else if 250<=unm ws (a+1) then .inl 22 else oL ws (250*(n-249)+unm ws (a+1)) (a+2) out)=R;refine lM (fun S' H'=>∃(q a':Nat),((DcM A H' db wv ws a' out/\a<=a')/\q<=2000)/\(False\/oL ws q a' out=R)/\∃(z:Nat->Value),S'=[ptr db,z 1,.int .i64 (q:Nat),z 3,z 4,z 5,z 6,z 7,z 8,z 9,z 10,z 11,z 12,z 13,z 14,z 15,z 16]) ?_ ?_
 ·by_cases h250:n<250
  ·have hdd:decide ((n:Int)>=250)=false:=decide_eq_false byO
   rw[if_pos h250]at hR;replace hR:False\/_:=.inr hR;refine aP ?_ ?_<;>intro h
   ·simp at h
   ·clear h hdd
    (try simp only[aB]);exact⟨n,a+1,⟨⟨hd1,byO⟩,byO⟩,hR,aR rfl⟩
  ·have hdd:decide ((n:Int)>=250)=true:=decide_eq_true byO
   rw[if_neg h250]at hR;replace hR:False\/_:=.inr hR;refine aP ?_ ?_<;>intro h
   ·clear h hdd
    (try simp only[aB]);refine dh ?_;refine aA (MF hd1 hlo) ?_;intro r H2 hr;rcases hr with ⟨ha2,rfl,hx⟩|⟨ha2,rfl,hd2⟩
    ·have h2:=hR.resolve_left id
     rw[if_pos ha2]at h2;subst h2;refine aL ?_;refine aP ?_ ?_<;>intro h
     ·refine aL ?_
      refine bM ?_;exact⟨rfl,hx,byO⟩
     ·simp at h
    have h2:=hR.resolve_left id;rw[if_neg byO]at h2;have hml:=oS ws (a+1);generalize unm ws (a+1)=m at hml h2 ⊢;clear hR;replace h2:False\/_:=.inr h2;refine aL ?_;refine aP ?_ ?_<;>intro h
    ·simp at h
    clear h;(try simp only[aB]);by_cases hm:250<=m
    ·have hdd:decide ((m:Int)>=250)=true:=decide_eq_true byO
     have h3:=h2.resolve_left id;rw[if_pos hm]at h3;subst h3;refine aP ?_ ?_<;>intro h
     ·refine aL ?_
      refine bM ?_;exact⟨rfl,hd2.ext,byO⟩
     ·simp at h
    have hdd:decide ((m:Int)>=250)=false:=decide_eq_false byO;have h3:=h2.resolve_left id;rw[if_neg hm]at h3;replace h3:False\/_:=.inr h3;clear h2;have e1:250*((n:Int)-249)+(m:Nat)=((250*(n-249)+m:Nat):Int):=byO;have e2:250*(n-249)+m<=2000:=byO;generalize 250*(n-249)+m=q at e1 e2 h3;refine aP ?_ ?_<;>intro h
    ·simp at h
    clear h hdd;refine aL ?_;exact⟨q,a+2,⟨⟨hd2,byO⟩,e2⟩,h3,aR rfl⟩
   ·simp at h
 ·rintro S' H2 ⟨q,a',⟨⟨hd2,haa⟩,hq⟩,hR2,z,rfl⟩
  clear hR hd1 hd;refine aL ?_;refine aa (fun k S H'=>∃(c:Nat) (o:List UInt8),((DcM A H' db wv ws c o/\(o.length+2*(ws.length-c)<=16400)))/\(False\/oL ws (q-k) c o=R)/\∃(z:Nat->Value),S=[ptr db,z 1,z 2,z 3,z 4,z 5,z 6,z 7,z 8,z 9,.int .i64 (q:Nat),.int .i64 (k:Nat),z 12,z 13,z 14,z 15,z 16]) q ⟨a',out,⟨hd2,byO⟩,hR2,aR rfl⟩ ?_ ?_ ?_
  ·rintro k S H' hk ⟨c,o,h1,h2,z,rfl⟩
   exact⟨decide ((k:Int)<(q:Nat)),by simp(disch:=try exact dO)only[evB,xtr,Nat.reduceAdd,Nat.reduceBEq,Int.reduceToNat, *],by simp⟩
  ·rintro k S H4 hk ⟨c,o,⟨hd4,hB4⟩,hR4,z,rfl⟩
   clear hd2 hR2;obtain⟨j,hj⟩:∃j,q-k=j+1:=⟨q-k-1,byO⟩;have hj2:q-(k+1)=j:=byO;rw[hj]at hR4;rw[hj2];have hR5:False\/(if ws.length<=c then .inl 10 else oL ws j (c+1) (o++[UInt8.ofNat (unm ws c)]))=R:=hR4;clear hR4 hj hj2;(try simp only[aB]);refine dh ?_;refine aA (MF hd4 hlo) ?_;intro r H5 hr;rcases hr with ⟨ha2,rfl,hx⟩|⟨ha2,rfl,hd5⟩
   ·have h2:=hR5.resolve_left id
    rw[if_pos ha2]at h2;subst h2;refine aL ?_;refine aP ?_ ?_<;>intro h
    ·refine aL ?_
     refine bM ?_;exact⟨rfl,hx,byO⟩
    ·simp at h
   have h2:=hR5.resolve_left id;rw[if_neg byO]at h2;have hml:=oS ws c;generalize unm ws c=m at hml h2 ⊢;clear hR5 hd4;replace h2:False\/_:=.inr h2;obtain⟨ov,b,⟨hg,hne⟩,ho⟩:=hd5.g;have hlx:=hd5.ext.1;have hdA:=hd5.dbA;have hdl:=Heap.get_lt hg;clear ho;refine aL ?_;refine aP ?_ ?_<;>intro h
   ·simp at h
   clear h;refine aL ?_;rw[<-de (n:=m) byO];refine dh ?_;refine qB (n:=1) (l:=[UInt8.ofNat m]) hd5 hg hlo rfl byO byO ?_;intro ad m' H6 hg6 hl6 hd6;refine aL ?_;exact⟨c+1,o++[UInt8.ofNat m],⟨hd6,by simp;omega⟩,h2,aR ncM⟩
  ·rintro S H4 ⟨c,o,⟨hd4,hB4⟩,hR4,z,rfl⟩
   rw[Nat.sub_self]at hR4;have h2:Sum.inr (c,o)=R:=hR4.resolve_left id;subst h2;refine aL ?_;refine bM ?_;exact⟨rfl,hd4⟩
end
theorem O6{g c:Nat}(hc:c<256):256*g ||| c=256*g+c:=(Nat.two_pow_add_eq_or_of_lt (i:=8) hc g).symm
section
variable {A H:Heap}{db:Nat}{wv:Value}{ws:List Nat}{a:Nat}{out:List UInt8}{lo:Nat}
open XMDc
theorem OA{f:Nat}(hd:DcM A H db wv ws a out)(hlo:lo<=A.length)(hB:out.length+2*(ws.length-a)<=16400)(hf:8*ws.length+6<=6*f):Ev cp lo 142 [ptr db] H (fun r H'=>vy A db wv ws r H' (mD ws a f 0 out)):=by
 have hlen:=hd.len;have hle:=hd.le;have hbyt:=hd.byt;refine stG rfl rfl ?_;unfold IX;simp only[kB,aB];refine aL ?_;generalize hR:mD ws a f 0 out=R;refine aY (fun m S H'=>∃(bit f:Nat) (o:List UInt8),((DcM A H' db wv ws a o/\6*o.length<=6*out.length+bit)/\(bit%2=0/\bit<8*ws.length+6/\8*ws.length+6<=6*f+bit/\m=8*ws.length+6-bit))/\(False\/mD ws a f bit o=R)/\∃(z:Nat->Value),S=[ptr db,z 1,.int .i64 (bit:Nat),z 3,z 4,z 5,z 6,z 7,z 8,z 9,z 10,z 11]) (8*ws.length+6) ⟨0,f,out,⟨⟨hd,byO⟩,byO,byO,byO,byO⟩,.inr hR,aR rfl⟩ ?_;clear hR hf hd;rintro m S H1 ⟨bit,f,o,⟨⟨hd,ho6⟩,hb2,hbl,hf,hm⟩,hR,z,rfl⟩;obtain⟨g,rfl⟩:∃g,f=g+1:=⟨f-1,byO⟩;replace hm:m<=8*ws.length+6-bit/\8*ws.length+6-bit<=m:=byO;have hlA:=hd.ext.1;have hdA:=hd.dbA;have hx0:=hd.ext;obtain⟨aw,cw,ew⟩:=hd.w.len;subst ew;obtain⟨ov,b,⟨hg,hne⟩,hoo⟩:=hd.g;have hdl:=Heap.get_lt hg;clear hoo;have hR2:False\/(if ws.length<=a+(bit+5)/8 then .inl 10 else if kz ws a bit=31 then(if wd ws (a+(bit+5)/8)%2^((8-(bit+6)%8)%8)≠0 then .inl 22 else .inr (a+(bit+5)/8+1,o)) else mD ws a g (bit+6) (o++[UInt8.ofNat (if kz ws a bit<32 then kz ws a bit+64 else kz ws a bit)]))=R:=hR;clear hR;have q1:(bit:Int).tdiv 8=((bit/8:Nat):Int):=by rw[Int.tdiv_eq_ediv_of_nonneg byO];omega
 have q2:((bit:Int)+5).tdiv 8=(((bit+5)/8:Nat):Int):=by rw[Int.tdiv_eq_ediv_of_nonneg byO];omega
 have q3:(bit:Int).tmod 8=((bit%8:Nat):Int):=by rw[Int.tmod_eq_emod_of_nonneg byO];omega
 have q4:((bit:Int)+6).tmod 8=(((bit+6)%8:Nat):Int):=by rw[Int.tmod_eq_emod_of_nonneg byO];omega
 have hs6:kz ws a bit=(256*wd ws (a+bit/8)+if bit/8<(bit+5)/8 then wd ws (a+(bit+5)/8) else 0)/2^(10-bit%8)%64:=rfl;have hpos:bit/8<=(bit+5)/8/\8*((bit+5)/8)<=bit+5:=byO;have ht:bit%8<8/\(bit%8)%2=0:=byO;have h68:(bit+6)%8<=7:=byO;have hinj:bit+5<8*((bit+5)/8)+8:=byO;generalize hi0:bit/8=i0 at q1 hs6 hpos;generalize hi1:(bit+5)/8=i1 at q2 hs6 hpos hR2 hinj;generalize hit:bit%8=t at q3 hs6 ht;generalize hir:(bit+6)%8=r6 at q4 h68 hR2;clear hi0 hi1 hit hir;refine aL ?_;by_cases hae:ws.length<=a+i1
 ·have hdd:decide ((a:Int)+(i1:Nat)>=(ws.length:Nat))=true:=decide_eq_true byO
  have hdd2:decide ((ws.length:Int)<=(a:Nat)+(i1:Nat))=true:=decide_eq_true byO;have h2:=hR2.resolve_left id;rw[if_pos hae]at h2;subst h2;refine aP ?_ ?_<;>intro h
  ·refine aL ?_
   refine bM ?_;exact⟨rfl,hx0,byO⟩
  ·simp at h
 have hdd:decide ((a:Int)+(i1:Nat)>=(ws.length:Nat))=false:=decide_eq_false byO;have hdd2:decide ((ws.length:Int)<=(a:Nat)+(i1:Nat))=false:=decide_eq_false byO;have h2:=hR2.resolve_left id;rw[if_neg hae]at h2;replace h2:False\/_:=.inr h2;clear hR2;refine aP ?_ ?_<;>intro h
 ·simp at h
 clear h hdd hdd2;obtain⟨b1,o1,x1,ia,g1,e1⟩:=hd.at (k:=a+i0) byO;obtain⟨b2,o2,x2,ib,g2,e2⟩:=hd.at (k:=a+i1) byO;have hy1:=hbyt (a+i0);have hy2:=hbyt (a+i1);generalize hw1:wd ws (a+i0)=w1 at e1 hs6;generalize hw2:wd ws (a+i1)=w2 at e2 hs6 h2;replace hy1:w1<=255:=by rw[<-hw1];exact hy1
 replace hy2:w2<=255:=by rw[<-hw2];exact hy2
 clear hw1 hw2;simp only[ap₀]at ia ib;have hsh:IntKind.i64.wrap ((w1:Int)*2^(min 8 IntKind.i64.bits))=((256*w1:Nat):Int):=by
  have e:min 8 IntKind.i64.bits=8:=by decide
  rw[e,show(w1:Int)*2^8=((256*w1:Nat):Int) by omega];exact wi byO
 obtain⟨pr,hpr,hprl⟩:∃pr,(False\/256*w1+(if i0<i1 then w2 else 0)=pr)/\pr<=65535:=⟨_,.inr rfl,by split<;>omega⟩;rw[hpr.resolve_left id]at hs6;refine aL ?_;refine lM (fun S' H'=>H1=H'/\∃(z:Nat->Value),S'=[ptr db,z 1,.int .i64 (bit:Nat),z 3,.int .i64 ((a:Int)+(i1:Nat)),aD pr,z 6,z 7,z 8,z 9,z 10,z 11]) ?_ ?_
 ·by_cases hii:i0<i1
  ·have hdd:decide ((a:Int)+(i1:Nat)>(a:Nat)+(i0:Nat))=true:=decide_eq_true byO
   have hdd2:decide ((a:Int)+(i0:Nat)<(a:Nat)+(i1:Nat))=true:=decide_eq_true byO;have h3:=hpr.resolve_left id;rw[if_pos hii]at h3;subst h3;have hor:IntKind.i64.wrap ((BitVec.ofInt IntKind.i64.bits ((256*w1:Nat):Int) ||| BitVec.ofInt IntKind.i64.bits ((w2:Nat):Int)).toNat:Int)=((256*w1+w2:Nat):Int):=by rw[ME byO byO,O6 byO]
   refine aP ?_ ?_<;>intro h
   ·clear h hdd hdd2
    refine aL ?_;exact⟨by trivial,aR rfl⟩
   ·simp at h
  ·have hdd:decide ((a:Int)+(i1:Nat)>(a:Nat)+(i0:Nat))=false:=decide_eq_false byO
   have hdd2:decide ((a:Int)+(i0:Nat)<(a:Nat)+(i1:Nat))=false:=decide_eq_false byO;have h3:=hpr.resolve_left id;rw[if_neg hii,Nat.add_zero]at h3;subst h3;refine aP ?_ ?_<;>intro h
   ·simp at h
   ·clear h hdd hdd2
    (try simp only[aB]);exact⟨by trivial,aR rfl⟩
 rintro S' H2 ⟨rfl,z,rfl⟩;have hf10:(10:Int)-(t:Nat)=((10-t:Nat):Int):=byO;have hfd:=JN (a:=pr) (b:=2^(10-t)) (10-t) rfl byO;simp only[Int.toNat_natCast]at hfd;obtain⟨s6,hs6e⟩:∃s6,pr/2^(10-t)=s6:=⟨_,rfl⟩;have hs6l:s6<=65535:=by rw[<-hs6e];exact Nat.le_trans (Nat.div_le_self _ _) hprl
 rw[hs6e]at hfd hs6;have hand:IntKind.i64.wrap ((BitVec.ofInt IntKind.i64.bits ((s6:Nat):Int) &&& BitVec.ofInt IntKind.i64.bits ((63:Nat):Int)).toNat:Int)=((s6%64:Nat):Int):=by rw[tR byO byO,Mk]
 simp only[Int.cast_ofNat_Int]at hand;clear hs6e hsh hpr;rw[hs6]at h2;have hvl:s6%64<=63:=byO;generalize s6%64=x at hand h2 hvl;refine aL ?_;by_cases hx31:x=31
 ·have hdd:decide ((x:Int)=31)=true:=decide_eq_true byO
  have h3:=h2.resolve_left id;rw[if_pos hx31]at h3;replace h3:False\/_:=.inr h3;replace hx31:x<=31/\31<=x:=byO;clear h2 hand hfd;have e8:(8:Int)-(r6:Nat)=((8-r6:Nat):Int):=byO;have q5:((8-r6:Nat):Int).tmod 8=(((8-r6)%8:Nat):Int):=by rw[Int.tmod_eq_emod_of_nonneg byO];omega
  have hrs:(8-r6)%8<=7:=byO;generalize (8-r6)%8=rs at q5 hrs h3;have hp1:1<=2^rs:=Nat.one_le_two_pow;have hp2:2^rs<=128:=Nat.le_trans (Nat.pow_le_pow_right (by decide) hrs) (by decide);have hs1:IntKind.i64.wrap (1*2^(min rs IntKind.i64.bits))=((2^rs:Nat):Int):=by
   have e:min rs IntKind.i64.bits=rs:=by show min rs 64=rs;omega
   rw[e,show(1:Int)*2^rs=((2^rs:Nat):Int) by simp];exact wi byO
  have hs1':IntKind.i64.wrap (2^(min rs IntKind.i64.bits))=((2^rs:Nat):Int):=by rw[<-hs1,Int.one_mul]
  have hmsk:w2 &&& (2^rs-1)=w2%2^rs:=Nat.and_two_pow_sub_one_eq_mod w2 rs;have hand2:IntKind.i64.wrap ((BitVec.ofInt IntKind.i64.bits ((w2:Nat):Int) &&& BitVec.ofInt IntKind.i64.bits (((2^rs-1:Nat):Nat):Int)).toNat:Int)=((w2%2^rs:Nat):Int):=by rw[tR byO byO,hmsk]
  have epw:((2^rs:Nat):Int)-1=((2^rs-1:Nat):Int):=byO;obtain⟨pw,hpw⟩:∃pw,2^rs=pw:=⟨_,rfl⟩;rw[hpw]at hs1 hs1' hand2 epw hp1 hp2 h3;obtain⟨z2,hz2⟩:∃z2,w2%pw=z2:=⟨_,rfl⟩;rw[hz2]at hand2 h3;clear hpw hz2 hmsk;refine aP ?_ ?_<;>intro h
  ·clear h hdd
   refine aL ?_;by_cases hz:z2=0
   ·have hdd:decide ((z2:Int)=0)=true:=decide_eq_true byO
    have h4:=h3.resolve_left id;rw[if_neg byO]at h4;subst h4;clear h3;have hmv:=hd.move (a':=a+i1+1) hg byO;replace hz:z2<=0:=byO;refine aP ?_ ?_<;>intro h
    ·exfalso;first|(simp at h;omega)|(simp at h;done)
    clear h hdd;refine aL ?_;refine bM ?_;exact⟨rfl,hmv⟩
   ·have hdd:decide ((z2:Int)=0)=false:=decide_eq_false byO
    have h4:=h3.resolve_left id;rw[if_pos hz]at h4;subst h4;clear h3;refine aP ?_ ?_<;>intro h
    ·refine aL ?_
     refine bM ?_;exact⟨rfl,hx0,byO⟩
    ·exfalso;simp at h;omega
  ·simp at h
 ·have hdd:decide ((x:Int)=31)=false:=decide_eq_false byO
  have h3:=h2.resolve_left id;rw[if_neg hx31]at h3;obtain⟨y,hy,hyl⟩:∃y,(False\/(if x<32 then x+64 else x)=y)/\y<=255:=⟨_,.inr rfl,by split<;>omega⟩;rw[hy.resolve_left id]at h3;replace h3:False\/_:=.inr h3;clear h2 hand hfd;refine aP ?_ ?_<;>intro h
  ·simp at h
  clear h hdd;(try simp only[aB]);refine lM (fun S' H'=>H1=H'/\∃(z:Nat->Value),S'=[ptr db,z 1,.int .i64 (bit:Nat),z 3,z 4,z 5,aD y,z 7,z 8,z 9,z 10,z 11]) ?_ ?_
  ·by_cases h32:x<32
   ·have hdd:decide ((x:Int)<32)=true:=decide_eq_true byO
    have h4:=hy.resolve_left id;rw[if_pos h32]at h4;subst h4;refine aP ?_ ?_<;>intro h
    ·clear h hdd
     refine aL ?_;exact⟨by trivial,aR rfl⟩
    ·simp at h
   ·have hdd:decide ((x:Int)<32)=false:=decide_eq_false byO
    have h4:=hy.resolve_left id;rw[if_neg h32]at h4;subst h4;refine aP ?_ ?_<;>intro h
    ·simp at h
    ·clear h hdd
     (try simp only[aB]);exact⟨by trivial,aR rfl⟩
  rintro S' H2 ⟨rfl,z,rfl⟩;refine aL ?_;rw[<-de (n:=y) byO];refine dh ?_;refine qB (n:=1) (l:=[UInt8.ofNat y]) hd hg hlo rfl byO byO ?_;intro ad m' H6 hg6 hl6 hd6;refine aL ?_;exact⟨8*ws.length+6-(bit+6),byO,bit+6,g,o++[UInt8.ofNat y],⟨⟨hd6,by simp;omega⟩,byO,byO,byO,rfl⟩,h3,aR ncM⟩
end
theorem lq{ws:List Nat}{a:Nat}(h:jd ws a=.inr none):a<ws.length/\wd ws a=254:=by
 unfold jd at h;split at h
 ·cases h
 ·split at h
  ·exact⟨byO,by assumption⟩
  ·split at h
   ·cases h
   ·split at h<;>cases h
theorem lz{ws:List Nat}{a:Nat}{u:Nat×Nat×Nat}(h:jd ws a=.inr (some u)):a+1<ws.length/\wd ws a≠254/\1<=256*wd ws a+wd ws (a+1)/\256*wd ws a+wd ws (a+1)<=64000/\u=((256*wd ws a+wd ws (a+1)-1)/1600,(256*wd ws a+wd ws (a+1)-1)/40%40,(256*wd ws a+wd ws (a+1)-1)%40):=by
 unfold jd at h;split at h
 ·cases h
 ·split at h
  ·cases h
  ·split at h
   ·cases h
   ·split at h
    ·cases h
    ·refine⟨byO,by assumption,byO,byO,?_⟩
     cases h;rfl
theorem nf{lower:Bool}{s t:Nat×Bool×List UInt8}{v:Nat}(h:iv lower s v=.inr t):t.2.2.length<=s.2.2.length+1:=by
 unfold iv at h;split at h
 ·cases h;exact Nat.le_succ _
 ·split at h
  ·cases h;exact Nat.le_succ _
  ·split at h
   ·cases h
   ·cases h;simp
theorem tN{lower:Bool}{s t:Nat×Bool×List UInt8}{u:Nat×Nat×Nat}(h:uq lower s u=.inr t):∃s1 s2,iv lower s u.1=.inr s1/\iv lower s1 u.2.1=.inr s2/\iv lower s2 u.2.2=.inr t:=by
 unfold uq at h;cases h1:iv lower s u.1 with
 | inl e=>rw[h1]at h;cases h
 | inr s1=>
  rw[h1]at h;simp only at h;cases h2:iv lower s1 u.2.1 with
  | inl e=>rw[h2]at h;cases h
  | inr s2=>rw[h2]at h;exact⟨s1,s2,rfl,h2,h⟩
theorem wg{lower:Bool}{s t:Nat×Bool×List UInt8}{u:Nat×Nat×Nat}(h:uq lower s u=.inr t):t.2.2.length<=s.2.2.length+3:=by
 obtain⟨s1,s2,h1,h2,h3⟩:=tN h;have:=nf h1;have:=nf h2;have:=nf h3;omega
theorem oT{ws:List Nat}{lower:Bool}:∀(f a:Nat) (s:Nat×Bool×List UInt8) {a':Nat} {o:List UInt8},kO ws lower f a s=.inr (a',o)->a<a'/\a'<=ws.length/\o.length+2*(ws.length-a')<=s.2.2.length+2*(ws.length-a)
 | 0,a,s,a',o,h=>by cases h
 | f+1,a,s,a',o,h=>by
  simp only[kO]at h;cases ht:jd ws a with
  | inl e=>rw[ht]at h;cases h
  | inr t=>
   rw[ht]at h;cases t with
   | none=>
    have:=lq ht;cases h;omega
   | some u=>
    have:=lz ht;simp only at h;cases hv:uq lower s u with
    | inl e=>rw[hv]at h;cases h
    | inr s'=>
     rw[hv]at h;have:=oT f (a+2) s' h;have:=wg hv;omega
theorem tO{ws:List Nat}:∀(f a:Nat) (s:List UInt8) {a':Nat} {o:List UInt8},lK ws f a s=.inr (a',o)->a<a'/\a'<=ws.length/\o.length+2*(ws.length-a')<=s.length+2*(ws.length-a)
 | 0,a,s,a',o,h=>by cases h
 | f+1,a,s,a',o,h=>by
  simp only[lK]at h;cases ht:jd ws a with
  | inl e=>rw[ht]at h;cases h
  | inr t=>
   rw[ht]at h;cases t with
   | none=>
    have:=lq ht;cases h;omega
   | some u=>
    have:=lz ht;have:=tO f (a+2) _ h;simp at this;omega
theorem qF{ws:List Nat}{a:Nat}:∀(f bit:Nat) (s:List UInt8) {a':Nat} {o:List UInt8},mD ws a f bit s=.inr (a',o)->a<a'/\a'<=ws.length/\6*o.length+bit<=6*s.length+8*(a'-a)
 | 0,bit,s,a',o,h=>by cases h
 | f+1,bit,s,a',o,h=>by
  simp only[mD]at h;split at h
  ·cases h
  ·split at h
   ·split at h
    ·cases h
    ·cases h;omega
   ·have:=qF f (bit+6) _ h
    simp at this;omega
theorem rH{ws:List Nat}:∀(n a:Nat) (s:List UInt8) {a':Nat} {o:List UInt8},a<=ws.length->oL ws n a s=.inr (a',o)->a<=a'/\a'<=ws.length/\a'=a+n/\o.length=s.length+n
 | 0,a,s,a',o,ha,h=>by cases h;omega
 | n+1,a,s,a',o,ha,h=>by
  simp only[oL]at h;split at h
  ·cases h
  ·have:=rH n (a+1) _ byO h
   simp at this;omega
theorem vA{ws:List Nat}{a:Nat}{s:List UInt8}{a':Nat}{o:List UInt8}(h:rW ws a s=.inr (a',o)):a<a'/\a'<=ws.length/\o.length+2*(ws.length-a')<=s.length+2*(ws.length-a):=by
 unfold rW at h;split at h
 ·cases h
 ·split at h
  ·cases h
  ·split at h
   ·have:=rH _ _ _ byO h;omega
   ·split at h
    ·cases h
    ·split at h
     ·cases h
     ·have:=rH _ _ _ byO h;omega
theorem Bl{ws:List Nat}{w a:Nat}{s:List UInt8}{a':Nat}{o:List UInt8}(ha:a<=ws.length)(h:tT ws w a s=.inr (a',o)):a<=a'/\a'<=ws.length/\o.length+2*(ws.length-a')<=s.length+2*(ws.length-a)+2:=by
 unfold tT at h;split at h
 ·cases h;simp;omega
 ·split at h
  ·cases h;simp;omega
  ·split at h
   ·unfold upS at h
    split at h
    ·cases h
    ·split at h
     ·cases h
     ·cases h;simp;omega
   ·split at h
    ·have:=oT _ _ _ h;simp only at this;omega
    ·split at h
     ·have:=oT _ _ _ h;simp only at this;omega
     ·split at h
      ·have:=vA h;omega
      ·split at h
       ·have:=tO _ _ _ h;omega
       ·split at h
        ·have:=qF _ _ _ h;omega
        ·cases h
section
variable {A H:Heap}{db:Nat}{wv:Value}{ws:List Nat}{a:Nat}{out:List UInt8}{lo:Nat}
open XMDc
theorem Ml{w:Nat}(hd:DcM A H db wv ws a out)(hlo:lo<=A.length)(hw:w<=255)(hB:out.length+2*(ws.length-a)<=16398):Ev cp lo 89 [ptr db,aD w] H (fun r H'=>vy A db wv ws r H' (tT ws w a out)):=by
 have hlen:=hd.len;have hle:=hd.le;obtain⟨ov,b,⟨hg,hne⟩,hoo⟩:=hd.g;have hdl:=Heap.get_lt hg;have hlA:=hd.ext.1;have hdA:=hd.dbA;clear hoo;unfold tT;refine stG rfl rfl ?_;unfold N7;simp only[kB,aB];refine aL ?_;by_cases h1:1<=w/\w<=128
 ·have e1:decide ((w:Int)>=1)=true:=decide_eq_true byO
  have e1':decide ((1:Int)<=(w:Nat))=true:=decide_eq_true byO;have e2:decide ((w:Int)<=128)=true:=decide_eq_true byO;rw[if_pos h1];obtain⟨h1,h2⟩:=h1;have e3:(w:Int)-1=((w-1:Nat):Int):=byO;refine aP ?_ ?_<;>intro h
  ·clear h e1 e1' e2
   refine aL ?_;generalize hx:w-1=x at e3 ⊢;rw[<-de (n:=x) byO];refine dh ?_;refine qB (n:=1) (l:=[UInt8.ofNat x]) hd hg hlo rfl byO byO ?_;intro ad m' H6 hg6 hl6 hd6;refine aL ?_;refine bM ?_;exact⟨rfl,hd6⟩
  ·cases h
 have e1:(decide ((w:Int)>=1)&&decide ((w:Int)<=128))=false:=by
  simp only[Bool.and_eq_false_iff,ai₀];omega
 rw[if_neg h1];refine aP ?_ ?_<;>intro h
 ·exfalso;first|(rw[e1]at h;cases h)|cases h
 clear h e1 h1;(try simp only[aB]);by_cases h1:130<=w/\w<230
 ·have e1:decide ((w:Int)>=130)=true:=decide_eq_true byO
  have e1':decide ((130:Int)<=(w:Nat))=true:=decide_eq_true byO;have e2:decide ((w:Int)<230)=true:=decide_eq_true byO;rw[if_pos h1];obtain⟨h1,h2⟩:=h1;have e3:(w:Int)-130=((w-130:Nat):Int):=byO;have hx99:w-130<=99:=byO;refine aP ?_ ?_<;>intro h
  ·clear h e1 e1' e2
   generalize w-130=x at e3 hx99 ⊢;have q1:(x:Int).tdiv 10=((x/10:Nat):Int):=by rw[Int.tdiv_eq_ediv_of_nonneg byO];omega
   have q2:(x:Int).tmod 10=((x%10:Nat):Int):=by rw[Int.tmod_eq_emod_of_nonneg byO];omega
   have r1:x/10<=9:=byO;have r2:x%10<=9:=byO;generalize x/10=y1 at q1 r1 ⊢;generalize x%10=y2 at q2 r2 ⊢;refine aL ?_;change wpS cp lo _ _ _ (H++[some [Value.int .u8 ((48+y1:Nat):Int),Value.int .u8 ((48+y2:Nat):Int)]]);rw[<-de (n:=48+y1) byO,<-de (n:=48+y2) byO];refine dh ?_;refine qB (n:=2) (l:=[UInt8.ofNat (48+y1),UInt8.ofNat (48+y2)]) hd hg hlo rfl byO byO ?_;intro ad m' H6 hg6 hl6 hd6;refine aL ?_;refine bM ?_;exact⟨rfl,hd6⟩
  ·cases h
 have e1:(decide ((w:Int)>=130)&&decide ((w:Int)<230))=false:=by
  simp only[Bool.and_eq_false_iff,ai₀];omega
 rw[if_neg h1];refine aP ?_ ?_<;>intro h
 ·exfalso;first|(rw[e1]at h;cases h)|cases h
 clear h e1 h1;refine aL ?_;have hX:∀{r:Value} {H':Heap} {q:Rd},vy A db wv ws r H' q->vy A db wv ws (aM [r]) H' q:=fun h=>h;by_cases hc:w=235
 ·have e1:decide ((w:Int)=235)=true:=decide_eq_true byO
  rw[if_pos hc];replace hc:w<=235/\235<=w:=byO;refine aP ?_ ?_<;>intro h
  ·clear h e1
   (try simp only[aB]);refine dh ?_;refine aA (upP hd hlo byO) ?_;intro r H1 hr;refine aL ?_;refine bM ?_;exact hX hr
  ·simp at h
 have e1:decide ((w:Int)=235)=false:=decide_eq_false byO;rw[if_neg hc];refine aP ?_ ?_<;>intro h
 ·simp at h
 clear h e1;(try simp only[aB]);by_cases hc:w=230
 ·have e1:decide ((w:Int)=230)=true:=decide_eq_true byO
  rw[if_pos hc];replace hc:w<=230/\230<=w:=byO;refine aP ?_ ?_<;>intro h
  ·clear h e1
   (try simp only[aB]);refine dh ?_;refine aA (Jz (lower:=false) (f:=ws.length+1) hd hlo byO byO) ?_;intro r H1 hr;refine aL ?_;refine bM ?_;exact hX hr
  ·simp at h
 have e1:decide ((w:Int)=230)=false:=decide_eq_false byO;rw[if_neg hc];refine aP ?_ ?_<;>intro h
 ·simp at h
 clear h e1;(try simp only[aB]);by_cases hc:w=239
 ·have e1:decide ((w:Int)=239)=true:=decide_eq_true byO
  rw[if_pos hc];replace hc:w<=239/\239<=w:=byO;refine aP ?_ ?_<;>intro h
  ·clear h e1
   (try simp only[aB]);refine dh ?_;refine aA (Jz (lower:=true) (f:=ws.length+1) hd hlo byO byO) ?_;intro r H1 hr;refine aL ?_;refine bM ?_;exact hX hr
  ·simp at h
 have e1:decide ((w:Int)=239)=false:=decide_eq_false byO;rw[if_neg hc];refine aP ?_ ?_<;>intro h
 ·simp at h
 clear h e1;(try simp only[aB]);by_cases hc:w=231
 ·have e1:decide ((w:Int)=231)=true:=decide_eq_true byO
  rw[if_pos hc];replace hc:w<=231/\231<=w:=byO;refine aP ?_ ?_<;>intro h
  ·clear h e1
   (try simp only[aB]);refine dh ?_;refine aA (Ni hd hlo byO) ?_;intro r H1 hr;refine aL ?_;refine bM ?_;exact hX hr
  ·simp at h
 have e1:decide ((w:Int)=231)=false:=decide_eq_false byO;rw[if_neg hc];refine aP ?_ ?_<;>intro h
 ·simp at h
 clear h e1;(try simp only[aB]);by_cases hc:w=238
 ·have e1:decide ((w:Int)=238)=true:=decide_eq_true byO
  rw[if_pos hc];replace hc:w<=238/\238<=w:=byO;refine aP ?_ ?_<;>intro h
  ·clear h e1
   (try simp only[aB]);refine dh ?_;refine aA (QC (f:=ws.length+1) hd hlo byO byO) ?_;intro r H1 hr;refine aL ?_;refine bM ?_;exact hX hr
  ·simp at h
 have e1:decide ((w:Int)=238)=false:=decide_eq_false byO;rw[if_neg hc];refine aP ?_ ?_<;>intro h
 ·simp at h
 clear h e1;(try simp only[aB]);by_cases hc:w=240
 ·have e1:decide ((w:Int)=240)=true:=decide_eq_true byO
  rw[if_pos hc];replace hc:w<=240/\240<=w:=byO;refine aP ?_ ?_<;>intro h
  ·clear h e1
   (try simp only[aB]);refine dh ?_;refine aA (OA (f:=2*ws.length+2) hd hlo byO byO) ?_;intro r H1 hr;refine aL ?_;refine bM ?_;exact hX hr
  ·simp at h
 have e1:decide ((w:Int)=240)=false:=decide_eq_false byO;rw[if_neg hc];refine aP ?_ ?_<;>intro h
 ·simp at h
 clear h e1;refine aL ?_;refine bM ?_;exact⟨rfl,hd.ext,byO⟩
end
open XMDc
def vS(l:List Int):Nat ⊕ List UInt8:=if pE l=false then .inl 3 else if 8192<l.length then .inl 4 else FZ (l.map Int.toNat)
def JS(H':Heap)(r:Value):Nat ⊕ List UInt8->Prop
 | .inl e=>r=.tuple #[.slice none 0 0,.int .i64 (e:Nat)]/\e≠0
 | .inr out=>∃u,r=.tuple #[u,.int .i64 0]/\SlU H' u out
theorem yi{H:Heap}{v:Value}{l:List Int}(h:SlI H v l)(hc:pE l=true):SlN H v (l.map Int.toNat)/\∀k,(l.map Int.toNat).getD k 0<=255:=by
 have hall:=List.all_eq_true.1 hc;have hm:(l.map Int.toNat).map aD=l.map (Value.int .i64):=by
  rw[List.map_map];refine List.map_congr_left fun x hx=>?_;have:=hall x hx;simp only[ac₀,af₀]at this;show Value.int .i64 _=_;rw[Int.toNat_of_nonneg this.1]
 refine⟨?_,fun k=>?_⟩
 ·rcases h with ⟨rfl,rfl⟩|⟨b,o,sp,cap,xs,h1,h2,h3,h4⟩
  ·exact .inl ⟨rfl,rfl⟩
  ·refine .inr ⟨b,o,sp,cap,xs,by simpa using h1,h2,?_,by simpa using h4⟩
   rw[ay₀,hm];exact h3
 ·by_cases hk:k<l.length
  ·have:=hall l[k] (List.getElem_mem hk)
   simp only[ac₀,af₀]at this;simp[au₀,hk];omega
  ·simp[au₀,hk]
section
variable {lo:Nat}{H:Heap}{v:Value}{l:List Int}
theorem Q6(hv:SlI H v l)(hl:l.length<=100000)(hlo:lo<=H.length):Ev cp lo 46 [v] H (fun r H'=>Ext H H'/\JS H' r (vS l)):=by
 obtain⟨ad,c,ev⟩:=hv.len;rw[ev]at hv ⊢;refine stG rfl rfl ?_;unfold NC;simp only[kB,aB];refine aL ?_;refine aa (fun k S H'=>(H=H'/\pE (l.take k)=true)/\∃(z:Nat->Value),S=[.slice ad l.length c,z 1,z 2,z 3,z 4,z 5,z 6,.slice ad l.length c,.int .i64 (l.length:Nat),.int .i64 (k:Nat),z 10,z 11]) l.length ⟨⟨rfl,rfl⟩,aR rfl⟩ ?_ ?_ ?_
 ·rintro k S H' hk ⟨_,z,rfl⟩
  exact⟨decide ((k:Int)<(l.length:Nat)),by simp(disch:=try exact dO)only[evB,xtr,Nat.reduceAdd,Nat.reduceBEq,Int.reduceToNat, *],by simp⟩
 ·rintro k S H' hk ⟨⟨rfl,hcw⟩,z,rfl⟩
  have hcw2:=vR hk hcw;have hno:=C9 hk;obtain⟨b1,o1,x1,i1,g1,e1⟩:=E9 hv hk;generalize l.getD k 0=x at e1 hcw2 hno;replace hno:False\/_:=.inr hno;clear hcw;refine aL ?_;by_cases hx:0<=x/\x<=255
  ·obtain⟨hx1,hx2⟩:=hx
   rw[decide_eq_true hx1,decide_eq_true hx2]at hcw2;have hd1:decide (x<0)=false:=decide_eq_false byO;have hd2:decide (x>255)=false:=decide_eq_false byO;have hd3:decide (255<x)=false:=decide_eq_false byO;refine aP ?_ ?_<;>intro h
   ·exfalso;first|(simp at h;done)|cases h
   clear h hd1 hd2 hd3;refine aL ?_;exact⟨⟨trivial,hcw2⟩,aR ncM⟩
  ·have hc:pE l=false:=hno.resolve_left id (by
    simp only[Bool.and_eq_false_iff,ai₀];omega)
   have hd:(decide (x<0) || decide (x>255))=true:=by simp;omega
   refine aP ?_ ?_<;>intro h
   ·refine aL ?_
    refine bM ?_;exact⟨Ext.refl _,by unfold vS;rw[hc];exact⟨rfl,by decide⟩⟩
   ·exfalso;first|(simp at h;omega)|cases h
 ·rintro S H' ⟨⟨rfl,hcw⟩,z,rfl⟩
  rw[List.take_length]at hcw;unfold vS;rw[hcw];simp only[Bool.true_eq_false,if_false];obtain⟨hws,hby⟩:=yi hv hcw;clear hcw;(try simp only[aB]);by_cases h8:8192<l.length
  ·have hd:decide ((l.length:Int)>8192)=true:=decide_eq_true byO
   rw[if_pos h8];refine aP ?_ ?_<;>intro h
   ·refine aL ?_
    refine bM ?_;exact⟨Ext.refl _,rfl,by decide⟩
   ·simp at h
  have hd:decide ((l.length:Int)>8192)=false:=decide_eq_false byO;rw[if_neg h8];refine aP ?_ ?_<;>intro h
  ·simp at h
  clear h hd;have hwl:(l.map Int.toNat).length=l.length:=by simp
  generalize l.map Int.toNat=ws at hws hby hwl ⊢;have hwl':ws.length<=l.length/\l.length<=ws.length:=byO;obtain⟨wv,hwv⟩:∃wv,False\/Value.slice ad l.length c=wv:=⟨_,.inr rfl⟩;refine aL ?_;have hdc:DcM H (H++[some [Value.slice ad l.length c,aD 0,.slice none 0 0]]) H.length (.slice ad l.length c) ws 0 []:=
   ⟨Ext.app _ _,hws,⟨_,H.length+1,⟨aK,byO⟩,Own.nil byO⟩,Nat.le_refl _,byO,hby,Nat.zero_le _,by simp⟩
  change wpS cp lo _ _ _ (H++[some [Value.slice ad l.length c,aD 0,.slice none 0 0]]);generalize H++[some [Value.slice ad l.length c,aD 0,.slice none 0 0]]=H0 at hdc;obtain⟨R,hR⟩:∃R,False\/FZ ws=R:=⟨_,.inr rfl⟩;rw[hR.resolve_left id];have hR0:False\/rX ws (ws.length+1) 0 []=R:=.inr (hR.resolve_left id);clear hR;refine eo (fun S' H'=>∃a out,(DcM H H' H.length (.slice ad l.length c) ws a out/\(False\/R=.inr out))/\∃(z:Nat->Value),S'=[.slice ad l.length c,z 1,z 2,z 3,ptr H.length,z 5,z 6,z 7,z 8,z 9,z 10,z 11]) ?_ ?_
  ·refine aY (fun m S H'=>∃a f out,(DcM H H' H.length (.slice ad l.length c) ws a out/\out.length+2*(ws.length-a)<=16384)/\(ws.length-a<f/\m=ws.length-a)/\(False\/rX ws f a out=R)/\∃(z:Nat->Value),S=[.slice ad l.length c,z 1,z 2,z 3,ptr H.length,z 5,z 6,z 7,z 8,z 9,z 10,z 11]) ws.length ⟨0,_,[],⟨hdc,by simp;omega⟩,⟨byO,byO⟩,hR0,aR rfl⟩ ?_
   clear hR0 hdc;rintro m S H1 ⟨a,f,out,⟨hd,hB⟩,⟨hf,hm⟩,hR,z,rfl⟩;obtain⟨g,rfl⟩:∃g,f=g+1:=⟨f-1,byO⟩;have hR2:False\/(if ws.length<=a then .inr out else if wd ws a=129 then .inr out else match tT ws (wd ws a) (a+1) out with | .inl e=>.inl e | .inr (a',out')=>rX ws g a' out')=R:=hR;clear hR;replace hm:m<=ws.length-a/\ws.length-a<=m:=byO;obtain⟨ov,b,⟨hg,hne⟩,hoo⟩:=hd.g;have hdl:=Heap.get_lt hg;clear hoo;(try simp only[aB]);by_cases ha:ws.length<=a
   ·have hdd:decide ((a:Int)<(l.length:Nat))=false:=decide_eq_false byO
    have h2:=hR2.resolve_left id;rw[if_pos ha]at h2;subst h2;refine aP ?_ ?_<;>intro h
    ·simp at h
    ·(try simp only[aB])
     exact⟨a,out,⟨hd,.inr rfl⟩,aR rfl⟩
   have hdd:decide ((a:Int)<(l.length:Nat))=true:=decide_eq_true byO;have h2:=hR2.resolve_left id;rw[if_neg ha]at h2;replace h2:False\/_:=.inr h2;clear hR2;refine aP ?_ ?_<;>intro h;rotate_left
   ·simp at h
   clear h hdd;obtain⟨b1,o1,x1,i1,g1,e1⟩:=hd.at (k:=a) byO;have hbx:=hby a;have hmv:=hd.move (a':=a+1) hg byO;obtain⟨x,hx⟩:∃x,False\/wd ws a=x:=⟨_,.inr rfl⟩;rw[hx.resolve_left id]at e1 h2;replace hbx:x<=255:=by rw[<-hx.resolve_left id];exact hbx
   refine aL ?_;change wpS cp lo _ _ _ (List.set H1 H.length (some [.slice ad l.length c,aD (a+1),ov]));generalize List.set H1 H.length (some [.slice ad l.length c,aD (a+1),ov])=H2 at hmv;clear hd hg g1 i1 e1;by_cases h129:x=129
   ·have hdd:decide ((x:Int)=129)=true:=decide_eq_true byO
    have h3:=h2.resolve_left id;rw[if_pos h129]at h3;subst h3;clear h2;replace h129:x<=129/\129<=x:=byO;refine aP ?_ ?_<;>intro h
    ·(try simp only[aB])
     exact⟨a+1,out,⟨hmv,.inr rfl⟩,aR rfl⟩
    ·simp at h
   have hdd:decide ((x:Int)=129)=false:=decide_eq_false byO;have h3:=h2.resolve_left id;rw[if_neg h129]at h3;refine aP ?_ ?_<;>intro h
   ·simp at h
   clear h hdd h2;replace h3:False\/_:=.inr h3;(try simp only[aB]);refine dh ?_;refine aA (Ml hmv hlo hbx byO) ?_;intro r H3 hr;cases hq:tT ws x (a+1) out with
   | inl e=>
    rw[hq]at hr h3;obtain⟨rfl,hxx,he⟩:=hr;have h4:=h3.resolve_left id;simp only at h4;subst h4;clear h3;refine aL ?_;refine aP ?_ ?_<;>intro h
    ·refine aL ?_
     refine bM ?_;exact⟨hxx,rfl,he⟩
    ·exfalso;simp at h;exact he h
   | inr q=>
    obtain⟨a',out'⟩:=q;have hql:=Bl byO hq;rw[hq]at hr h3;obtain⟨rfl,hd3⟩:=hr;simp only at h3;clear hmv;refine aL ?_;refine aP ?_ ?_<;>intro h
    ·simp at h
    ·clear h
     (try simp only[aB]);exact⟨ws.length-a',byO,a',g,out',⟨hd3,byO⟩,⟨byO,rfl⟩,h3,aR rfl⟩
  ·rintro S' H1 ⟨a,out,⟨hd,hR⟩,z,rfl⟩
   have h2:=hR.resolve_left id;subst h2;obtain⟨ov,b,⟨hg,hne⟩,hoo⟩:=hd.g;have hsl:SlU H1 ov out:=Sl.ofOwn hoo;have hx:=hd.ext;clear hoo hd hR0 hdc;refine aL ?_;refine bM ?_;exact⟨hx,_,rfl,hsl⟩
end
def QR(p:List UInt8)(a:Nat):List Opt:=(List.range (min (p.length-a) 1749)).map fun i=>FO a (i+1)
def QP(p:List UInt8)(a:Nat):List Opt:=OL a++if a<p.length then[JE (by' p a) a]++JU p a++QR p a else[]
def RW(p:List UInt8)(a st:Nat):List Opt:=
 if st=0 then QP p a else if st<9 then AE p a (st-1) 1 false else if st<17 then AE p a (st-9) 9 true else if st=17 then QB p a else Nz p a
inductive Pth (p:List UInt8):Nat->Nat->Nat->Prop
 | nil:Pth p p.length 0 0
 | cons {a st m:Nat} {o:Opt}:a<=p.length->st<19->o ∈ RW p a st->Pth p o.nx o.md m->Pth p a st (o.sz+o.run+m)
structure RN where
 i:Nat
 m:Nat
 ph:Nat
 s:Nat
 u:Bool
structure RS where
 w:Nat
 s:Int
 t:Int
 c:Nat
 to:RN
structure RN.ok (N:Nat)(n:RN):Prop where
 i:n.i<=N
 m:n.m<=4
 ph:n.ph<=3/\(n.m≠4->n.ph<=2)/\(n.m=0->n.ph=0)
 s:n.s<=3/\(n.m=0\/3<=n.m->n.s=0/\n.u=false)
structure RS.ok (N:Nat)(x:RS):Prop where
 to:x.to.ok N
 w:x.w<=255
 c:x.c<=2000
 s:-1<=x.s/\x.s<=2000
 t:-1<=x.t/\x.t<=2000
end Go.Proofs.YtmnlgdpdgjbfgaaGreat
