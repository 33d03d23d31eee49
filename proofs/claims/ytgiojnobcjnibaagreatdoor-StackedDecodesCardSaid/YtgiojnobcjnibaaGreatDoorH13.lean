/- Lemmas. -/
import Derived.Test.YtgiojnobcjnibaaGreatDoorH12
import Derived.Deep.LoopGhost
import Derived.Deep.DeepFit
import Derived.Lib.AppendIntMem
set_option linter.all false
theorem Xl{P:Prop}(h:P:=by simp only[Nat.zero_add,an₀,Nat.add_zero];omega):P:=h
def XZ{P:Prop}(h:P:=by rw[bI];rfl):P:=h
namespace Go.Proofs.YtgiojnobcjnibaaGreatDoor
open Go.Abs
section
variable{H:Heap}
set_option maxRecDepth 20000
def LX{H:Heap}{a b:XU}(h:a.length+b.length<=9223372036854775807):aG (.bin .add) [eI a,eI b] H=some (eI<|a++b):=by simp only[aG,aZ,oP,iF];have e:IntKind.i64.max=9223372036854775807:=rfl;rw[if_neg byO];congr 2
def jx{C:Type}{enc:C->Value}(F:∀a,(enc a).oneCell'=true){A lo:Nat}{v w:Value}{b:Nat}{l m:List C}{z:XV}{R:Wq}(p:lo<=H.length)(G:A<=b)(o:A<=H.length)
  (q:Own lo 1 H v b<|l.map enc) (u:Sl enc H w m) (r:l.length+m.length<=4294967296)
  (k:∀j H' t,A<=t->Own lo 1 H' j t ((l++m).map enc)->Keep b H H'->R j H'):wpH cp lo (.app 1 z) [v,w] H R:=by
 have O:m=[]->R v H->R v H:=λ_ h=>h;have d:aV lo 1 v [] 0 H=some (v,H):=by
  obtain⟨I,⟨rfl,_⟩|⟨n,N,J,rfl,f⟩⟩:=q
  .simp[aV]
  .simp only[aV,Nat.add_zero,Nat.le_refl,if_true,or_true]
   rw[nf f I Xl];have:putCells (l.map enc) (0+n*1) []=l.map enc:=XM
   rw[this,gI f];rfl
 cases m with
 | nil=>
  have B:=k v H b G (by simpa using q) ⟨Nat.le_refl _,λ_ _ _=>rfl⟩;rcases u with ⟨rfl,_⟩|⟨D,K,s,g,xs,rfl,f,i,e,_⟩
  .simp[wpH,bh,hsem,if_true,d];exact B
  .simp[wpH,bh,hsem,an₀,Nat.zero_mul]
   rw[cells_get f Yc];simp[ao₀,List.take_zero,oneCells,List.all_nil,if_true,d];exact B
 | cons a m=>
  rcases u with ⟨_,h⟩|⟨D,K,s,g,xs,rfl,f,i,e,_⟩
  .cases h
  .apply dD (c:=(a::m).map enc) q p Wd Wc (by simpa using r) f (by rw[Nat.mul_one];exact e) (by rw[Nat.mul_one];exact i)
   .unfold oneCells
    rw[List.all_eq_true];intro x i;obtain⟨y,_,rfl⟩:=List.mem_map.1 i;exact F y
   .intro j H' L M P
    exact k j H' H.length o (by rw[List.map_append];exact L) M
namespace XCSg
def xtr:=zzi @Int.cast_ofNat_Int<|zzi @ite_self.{1} (zzi @sP<|zzi @IZ<|zzi @iF<|zzi @I1<|zzi @QG<|zzi @fV<|zzi @IY<|zzi @xm<|zzi @LY<|zzi @LZ @LX)
end XCSg
def Ko{l:XU}{i:Nat}(h:l.all rj=true)(a:i<l.length):rj (l.getD i 0)=true:=Wx
def Grow(lo:Nat)(H:Heap)(v:Value)(b:Nat)(c:XV):Prop:=
 lo<=b/\((v=.slice none 0 0/\c=[])\/(0<c.length/\(∃sp,v=.slice (some ⟨b,0,sp⟩) c.length c.length/\(sp=none\/sp=some 1))/\H.get b=some c))
theorem Grow.nil{lo:Nat}{H:Heap}{b:Nat}(h:lo<=b):Grow lo H (.slice none 0 0) b []:=⟨h,.inl ⟨rfl,rfl⟩⟩
theorem Grow.lit{lo:Nat}{H:Heap}{b n:Nat}{c:XV}(h:lo<=b)(a:H.get b=some c)(d:c.length=n)(e:0<n):Grow lo H (.slice (some ⟨b,0,none⟩) n n) b c:=
 ⟨h,.inr ⟨byO,⟨none,by rw[d],.inl rfl⟩,a⟩⟩
theorem Grow.mono{lo b:Nat}{H H':Heap}{v:Value}{c:XV}(h:Grow lo H v b c)(e:Ext H H'):Grow lo H' v b c:=by
 obtain⟨f,h|⟨a,b,d⟩⟩:=h
 .exact⟨f,.inl h⟩
 .exact⟨f,.inr ⟨a,b,e.get d⟩⟩
theorem Grow.keep{lo b g:Nat}{H H':Heap}{v:Value}{c:XV}(h:Grow lo H v b c)(e:Keep g H H')(f:b≠g):Grow lo H' v b c:=by
 obtain⟨i,h|⟨a,b,d⟩⟩:=h
 .exact⟨i,.inl h⟩
 .exact⟨i,.inr ⟨a,b,e.get d f⟩⟩
theorem Grow.sl{a:Type}{enc:a->Value}{lo b:Nat}{H:Heap}{v:Value}{l:List a}(h:Grow lo H v b<|l.map enc):Sl enc H v l:=by
 obtain⟨_,⟨rfl,h⟩|⟨_,⟨sp,rfl,d⟩,c⟩⟩:=h
 .exact .inl ⟨rfl,Wy⟩
 grind[Sl.whole]
theorem Grow.len{c:Type}{enc:c->Value}{lo b:Nat}{H:Heap}{v:Value}{l:List c}(h:Grow lo H v b<|l.map enc):∃a,v=.slice a l.length l.length:=by
 obtain⟨_,⟨rfl,h⟩|⟨_,⟨sp,rfl,e⟩,d⟩⟩:=h
 all_goals simp_all
theorem Grow.off{A lo:Nat}{H:Heap}{v:Value}{b:Nat}{c:XV}(h:Grow lo H v b c)(j:A<=b){n:Nat}(k:A<=n)(f:lo<=n):∃a,Grow lo H v a c/\A<=a/\(a<H.length\/n<=a):=by
 obtain⟨i,⟨d,e⟩|⟨d,e,g⟩⟩:=h
 .exact⟨n,⟨f,.inl ⟨d,e⟩⟩,k,.inr<|Nat.le_refl _⟩
 .exact⟨b,⟨i,.inr ⟨d,e,g⟩⟩,j,.inl<|Heap.get_lt g⟩
theorem Q5{b:Type}{enc:b->Value}(c:∀a,(enc a).oneCell'=true)(l:List b):oneCells (l.map enc)=true:=by grind[oneCells]
def pj{N:Type}{enc:N->Value}(B:∀a,(enc a).oneCell'=true){A lo:Nat}{v w:Value}{b:Nat}{l m:List N}{z:XV}{R:Wq}(p:lo<=H.length)(C:A<=b)(j:A<=H.length)
  (Q:Grow lo H v b<|l.map enc) (y:Sl enc H w m) (t:l.length+m.length<=4294967296)
  (k:∀r H' g,A<=g->Grow lo H' r g ((l++m).map enc)->Keep b H H'->R r H'):wpH cp lo (.app 1 z) [v,w] H R:=by
 have c:∀r H' g,A<=g->Own lo 1 H' r g ((l++m).map enc)->Keep b H H'->R r H':=by
  intro r H' g S T U;refine k r H' g S ?_ U;obtain⟨K,⟨L,M⟩|⟨n,L,M,V,W⟩⟩:=T
  .exact⟨K,.inl ⟨L,M⟩⟩
  .exact⟨K,.inr ⟨byO,⟨some 1,by rw[V,show n=((l++m).map enc).length by omega],.inr rfl⟩,W⟩⟩
 obtain⟨x,⟨rfl,P⟩|⟨F,⟨sp,rfl,rfl|rfl⟩,s⟩⟩:=Q
 .exact jx B p C j ⟨x,.inl ⟨rfl,P⟩⟩ y t c
 .cases m with
  | nil=>
   have I:=k (.slice (some ⟨b,0,none⟩) (l.map enc).length (l.map enc).length) H b C (by rw[List.append_nil];exact⟨x,.inr ⟨F,⟨none,rfl,.inl rfl⟩,s⟩⟩) ⟨Nat.le_refl _,λ_ _ _=>rfl⟩;have f:aV lo 1 (.slice (some ⟨b,0,none⟩) (l.map enc).length (l.map enc).length) [] 0 H=some (.slice (some ⟨b,0,none⟩) (l.map enc).length (l.map enc).length,H):=by
    simp only[aV,Nat.add_zero,Nat.le_refl,if_true,true_or];rw[nf s x Xl];have:putCells (l.map enc) (0+(l.map enc).length*1) []=l.map enc:=XM
    rw[this,gI s];rfl
   rcases y with ⟨rfl,_⟩|⟨D,J,u,d,xs,rfl,o,G,q,_⟩
   .simp only[wpH,bh,hsem,if_true,f];exact I
   .simp only[wpH,bh,hsem,an₀,Nat.zero_mul]
    rw[cells_get o (by simpa using q)];simp only[ao₀,List.take_zero,oneCells,List.all_nil,if_true,f];exact I
  | cons a m=>
   rcases y with ⟨_,h⟩|⟨D,J,u,d,xs,rfl,o,G,q,_⟩
   .cases h
   .have e:bh lo (.app 1 z) [.slice (some ⟨b,0,none⟩) (l.map enc).length (l.map enc).length,.slice (some ⟨D,J,u⟩) (a::m).length d] H =
      some (.slice (some ⟨H.length,0,some 1⟩) ((l.map enc).length+(a::m).length)<|(l.map enc).length+(a::m).length,H++[some<|l.map enc++(a::m).map enc]):=by
     simp only[bh,hsem];rw[cells_get o (by rw[Nat.mul_one];exact q)];simp only[ao₀,Nat.mul_one,G,Q5 B,if_true,aV];rw[if_neg Wc,if_neg (by unfold cT;rw[ay₀];omega)];rw[cells_get s byO];simp;rw[List.take_of_length_le Wc]
    simp only[wpH];rw[e];refine k _ _ H.length j ⟨p,.inr ⟨Wr,⟨some 1,Wc,.inr rfl⟩,?_⟩⟩ ⟨Wc,λi O _=>kG O⟩;rw[aX,List.map_append]
 .refine jx B p C j (b:=b) ⟨x,.inr ⟨_,F,Wc,rfl,s⟩⟩ y t c
open XCSg
def PY{lo:Nat}{l:XU}(l0:lo<=H.length)(hl:l.length<=44)(hd:∀b ∈ l,rj b=true) :
  Ev cp lo 169 [eI l] H λr H'=>Ext H H'/\SlN H' r (BK l):=by
 refine stG rfl rfl ?_;unfold NG;simp only[kB,aC];refine aA ?_;refine aP (λi S H'=>Ext H H'/\∃(w:Value) (b:Nat),H.length<=b/\Grow lo H' w b ((1::dgt (l.take i)).map eQ)/\∃(z:Nat->Value),S=[eI l,z 1,w,.int .i64 i,z 4,z 5,z 6,z 7,z 8,z 9,z 10,z 11,z 12,z 13,z 14,z 15,z 16,z 17,z 18,z 19]) l.length ?_ ?_ ?_ ?_
 .exact⟨Ext.push _ _,_,H.length,Nat.le_refl _,Grow.lit l0 (aX _ _) rfl Nat.one_pos,aH rfl⟩
 .rintro i S H' y ⟨P,w,b,-,-,z,rfl⟩
  exact⟨_,aM,Wc⟩
 .rintro i S H' y ⟨P,w,b,I,f,z,rfl⟩
  have U:=Ko (List.all_eq_true.2 hd) y;have W:dgt (l.take<|i+1)=dgt (l.take i)++[(l.getD i 0).toNat-48]:=by
   unfold dgt;rw[List.take_add_one,bc₀ y,au₀,bc₀ y];simp only[Option.toList_some,List.map_append,ag₀,al₀,aq₀]
  have b1:(dgt<|l.take i).length<=44:=by simp[dgt];omega
  generalize Y0:l.getD i 0=G at *;have X0:48<=G.toNat/\G.toNat<=57:=by simpa[rj]using U
  clear U;obtain⟨x,k1,F⟩:∃x:Nat,G.toNat<=x+48/\x+48<=G.toNat:=⟨G.toNat-48,byO,byO⟩;have z0:IntKind.u8.wrap ((G.toNat:Int)-48)=(x:Nat):=by
   rw[show(G.toNat:Int)-48=(x:Nat) by omega];simp[IntKind.wrap,IntKind.bits,IntKind.signed];omega
  rw[show G.toNat-48=x by omega]at W;have X:=P.1;refine aA ?_;refine ay ?_;have v:=Ext.push H'<|some [eQ x];refine pj (enc:=eQ) (λ_=>rfl) (A:=H.length) (m:=[x]) Wr I Wr (f.mono v) (Sl.whole (aX _ _) rfl) Wr ?_;intro v' H4 b' J O K;have k:=K.ext (P.trans v) I;clear f;refine aA ?_;exact⟨k,v',b',J,by rw[W];exact O,aH ncM⟩
 .rintro S H' ⟨P,w,b,I,f,z,rfl⟩
  rw[List.take_length]at f;have hw:SlN H' w<|dec<|aa 10 (1::dgt l):=by rw[Ld hd];exact f.sl
  clear f;have g0:=rI hd;have c0:aa 10 (1::dgt l)<10^50:=bd₀ (Cj hd).1 (by
   calc 2*10^l.length<=2*10^44:=Nat.mul_le_mul_left _ (Nat.pow_le_pow_right Wd hl)
    _<=10^50:=by decide)
  unfold BK at g0 ⊢;generalize aa 10 (1::dgt l)=N at *;have X:=P.1;refine aA ?_;refine aj (λm S n=>Ext H n/\m<10^50/\∃(w u:Value) (j:XN),SlN n w (dec m)/\SlN n u j/\(rZ m++j=rZ N\/False)/\∃(z:Nat->Value),S=[z 0,z 1,w,z 3,u,z 5,z 6,z 7,z 8,z 9,z 10,z 11,z 12,z 13,z 14,z 15,z 16,z 17,z 18,z 19]) N ?_ ?_
  .exact⟨P,c0,w,_,[],hw,.inl ⟨rfl,rfl⟩,.inl Wc,aH rfl⟩
  rintro M S n ⟨F,hM,w,u,j,D,hu,hs,z,rfl⟩;have Z:=D;have C:=hu;obtain⟨aw,cw,rfl⟩:=D.len;obtain⟨au,cu,rfl⟩:=hu.len;have j0:=F.1;have a1:(dec M).length<=50:=by unfold dec;rw[List.length_reverse];exact cU Wd 50 M hM
  have g1:j.length<=45:=by
   have:=congrArg List.length<|hs.resolve_right id;rw[as₀]at this;omega
  (try simp only[aC]);refine aK ?_ ?_<;>intro h
  .have p:M≠0:=by
    rintro rfl;rw[mP]at h;simp at h
   clear h;refine aA ?_;refine aP (λi S o=>Ext n o/\∃(q:Value) (b:Nat),n.length<=b/\Grow lo o q b ((dec<|aa 10 ((dec M).take i)/900).map eQ)/\∃(z:Nat->Value),S=[z 0,z 1,.slice aw (dec M).length cw,z 3,.slice au j.length cu,q,eQ<|aa 10 ((dec M).take i)%900,.int .i64 i,z 8,z 9,z 10,z 11,z 12,z 13,z 14,z 15,z 16,z 17,z 18,z 19]) (dec M).length ?_ ?_ ?_ ?_
   .exact⟨Ext.refl _,_,n.length,Nat.le_refl _,by simpa[aa,mP]using Grow.nil (H:=n) (b:=n.length) (show lo<=n.length by omega),aH rfl⟩
   .rintro i S o y ⟨c,q,b,-,-,z,rfl⟩
    exact⟨_,aM,Wc⟩
   .rintro i S o y ⟨c,q,b,I,f,z,rfl⟩
    obtain⟨b2,o2,m1,w0,xs,e,g,T⟩:=xP Z y;cases e;have g:=c.get g;have Y:=jb (B:=10) y;have Z0:(dec M).getD i 0<10:=by
     rw[au₀,bc₀ y];exact dec_lt M _<|List.getElem_mem _
    have Q:aa 10 ((dec M).take i)<10^50:=bd₀ (iZ (dec_lt M) i byO)<|Nat.pow_le_pow_right Wd byO;have h1:(dec<|aa 10 ((dec M).take i)/900).length<=50:=by
     unfold dec;rw[List.length_reverse];exact cU Wd 50 _<|Nat.lt_of_le_of_lt (Nat.div_le_self _ _) Q
    clear Q;rw[Y];clear Y;generalize aa 10 ((dec M).take i)=V at *;generalize (dec M).getD i 0=d at *;have hV:=Nat.div_add_mod V 900;have hr:=Nat.mod_lt V (show 900>0 by decide);generalize V/900=a at *;generalize V%900=r at *;obtain⟨aq,rfl⟩:=f.len;have L:=c.1;obtain⟨t,ht,j1⟩:∃t,t<=10*r+d/\10*r+d<=t:=⟨_,Nat.le_refl _,Nat.le_refl _⟩;have e1:(V*10+d)/900=10*a+t/900:=byO;have e2:(V*10+d)%900=t%900:=byO;have r0:t/900<10:=byO;have et:(10:Int)*(r:Nat)+(d:Nat)=(t:Nat):=byO;have x0:(t:Int).tdiv 900=((t/900:Nat):Int):=Int.ofNat_tdiv t 900;have y0:(t:Int).tmod 900=((t%900:Nat):Int):=Int.ofNat_tmod t 900;have H0:900*a+r<=V/\V<=900*a+r:=byO;clear hV hu C hw D;refine aA ?_;refine aK ?_ ?_<;>intro h
    .have o0:10*a+t/900≠0:=by
      intro e;have R:a=0:=byO;subst R;rw[mP]at h;simp at h;omega
     clear h T g e1 e2;refine aA ?_;refine ay ?_;have v:=Ext.push o<|some [eQ<|t/900];refine pj (enc:=eQ) (λ_=>rfl) (A:=n.length) (m:=[t/900]) Wr I Wr (f.mono v) (Sl.whole (aX _ _) rfl) Wr ?_;intro v' H4 b' J O K;have k:=K.ext (c.trans v) I;clear f;refine aA ?_;exact⟨k,v',b',J,by rw[show(V*10+d)/900=10*a+t/900 by omega,yx r0 o0];exact O,aH (by rw[show(V*10+d)%900=t%900 by omega];exact ncM)⟩
    .have R:a=0:=by
      apply Decidable.byContradiction;intro R;have:0<(dec a).length:=List.length_pos_iff.2 λe=>R<|sB.1 e;simp only[Bool.or_eq_false_iff,ai₀]at h;omega
     have S0:t/900=0:=by
      simp only[Bool.or_eq_false_iff,ai₀]at h;omega
     clear h T g e1 e2;subst R;refine aA ?_;exact⟨c,.slice aq (dec 0).length (dec 0).length,b,I,by rw[show(V*10+d)/900=0 by omega];exact f,aH (by rw[show(V*10+d)%900=t%900 by omega];exact ncM)⟩
   .rintro S o ⟨c,q,b,I,f,z,rfl⟩
    rw[List.take_length,uE]at f;rw[List.take_length,uE];have hq:SlN o q<|dec<|M/900:=f.sl;have s0:=C.mono c;have L:=c.1;have e0:=Ft p;have b0:M/900<M:=Nat.div_lt_self byO Wd;generalize M/900=M2 at *;generalize M%900=r at *;clear f hu hw D Z C;refine aA ?_;refine ay ?_;have k:Ext o<|o++[some [eQ r],some [eQ r]]:=Ext.app _ _;refine pj (enc:=eQ) (λ_=>rfl) (A:=o.length) (b:=o.length+1) (l:=[r]) (m:=j) Wr byO Wc ⟨byO,.inr ⟨Nat.one_pos,⟨some 1,rfl,.inr rfl⟩,XZ⟩⟩ (s0.mono k) Wr ?_;intro v5 H5 b5 T0 q0 h0;have a0:=h0.ext k byO;refine aA ?_;simp only[bJ];refine⟨M2,b0,(F.trans c).trans a0,byO,q,v5,r::j,hq.mono a0,q0.sl,.inl ?_,aH rfl⟩;rw[<-hs.resolve_right id,e0];simp
  .have p:M=0:=by
    apply Decidable.byContradiction;intro p;have:0<(dec M).length:=List.length_pos_iff.2 λe=>p<|sB.1 e;simp only[ai₀]at h;omega
   clear h;subst p;have s:=hs.resolve_right id;rw[vO,List.nil_append]at s;rw[<-s];clear s hs;refine aA ?_;refine aL ?_;exact⟨F,C⟩
end
variable{H:Heap}{lo:Nat}{v:Value}
def V3:∀(k:Nat),k<=8->Ev cp lo 219 [.string ⟨#[48]⟩,.int .i64 k] H λv H'=>v=.string ⟨(List.replicate k (48:UInt8)).toArray⟩/\H'=H
 | 0,_=>fD 40 (v:=.string ⟨#[]⟩) (H':=H) Wf ⟨rfl,rfl⟩
 | 1,_=>fD 40 (v:=.string ⟨#[48]⟩) (H':=H) Wf ⟨rfl,rfl⟩
 | 2,_=>fD 40 (v:=.string ⟨#[48,48]⟩) (H':=H) Wf ⟨rfl,rfl⟩
 | 3,_=>fD 40 (v:=.string ⟨#[48,48,48]⟩) (H':=H) Wf ⟨rfl,rfl⟩
 | 4,_=>fD 40 (v:=.string ⟨#[48,48,48,48]⟩) (H':=H) Wf ⟨rfl,rfl⟩
 | 5,_=>fD 40 (v:=.string ⟨#[48,48,48,48,48]⟩) (H':=H) Wf ⟨rfl,rfl⟩
 | 6,_=>fD 40 (v:=.string ⟨#[48,48,48,48,48,48]⟩) (H':=H) Wf ⟨rfl,rfl⟩
 | 7,_=>fD 40 (v:=.string ⟨#[48,48,48,48,48,48,48]⟩) (H':=H) Wf ⟨rfl,rfl⟩
 | 8,_=>fD 40 (v:=.string ⟨#[48,48,48,48,48,48,48,48]⟩) (H':=H) Wf ⟨rfl,rfl⟩
 | k+9,h=>by omega
def eA(P:Program)(tr:XN):Nat->Code->Option Stm
 | 0,_=>some .skip
 | n+1,.seq a b=>match bF P tr a,eA P tr n b with
  | some x,some y=>some<|.seq x y
  | _,_=>none
 | _,_=>none
def DQ(P:Program)(nt:Nat):Nat->Code->Bool
 | 0,_=>true
 | n+1,.seq a b=>b7 P nt a&&DQ P nt n b
 | _,_=>false
def A8:Nat->Code->Code
 | 0,c=>c
 | n+1,.seq _ b=>A8 n b
 | _,_=>.skip
def w8{P:Program}{cp:Wl}{d lo m:Nat}(f:RunOK P d P.globals.size<|run cp m)(e:mH P (run cp m) d)(l:d<=lo){tr:XN}(o:Nd tr){B:Nat}{ds:List Deferred}{Q:Exit->Act->World->Prop} :
  ∀(n:Nat) (c:Code) (s:Stm),eA P tr n c=some s->DQ P B n c=true->∀(φ:Map) (H:Heap) (w:World) (T:Raw) (a:Act) (S:XV),dH tr S T->Tmps ds φ B T a->HRel φ d P.globals.size H w->lo<=H.length ->
   ∀k H',exec (run cp m) lo m s S H=some (.normal,k,H')->(∀a' w' g p,dH tr k p->Tmps ds g B p a'->Eff φ d P.globals.size lo H w g H' w'->(A8 n c).wp P Q a' w')->c.wp P Q a w
 | 0,c,s,b,_,φ,H,w,T,a,S,t,u,q,h,k,H',j,r=>by
  simp[eA,ab₀]at b;subst b;simp[exec]at j;obtain⟨rfl,rfl⟩:=j;exact r a w φ T t u<|Eff.refl q
 | n+1,.seq x y,s,b,i,φ,H,w,T,a,S,t,u,q,h,k,H',j,r=>by
  simp[eA]at b;split at b<;>try simp at b;done
  rename_i U V J K;simp at b;subst b;simp[DQ,ac₀]at i;simp[exec]at j;split at j
  next F D z=>
   apply wp_seq;refine nN (n:=m) f.toRet f.toPan e l o (SizeOf.sizeOf x+1) x byO U J i.1 ds _ φ H w T a S t u q h .normal F D z<|KOK.normal λI W C G L M A=>?_;exact w8 f e l o n y V K i.2 C D W G I F L M A.rel (Nat.le_trans h A.keeps.1) k H' j λa' w' g p N O R=>r a' w' g p N O<|Eff.trans A R
  simp_all
 | n+1,.region ..,s,b,_,_,_,_,_,_,_,_,_,_,_,_,_,_,_=>by grind[eA]
 | n+1,.cond ..,s,b,_,_,_,_,_,_,_,_,_,_,_,_,_,_,_=>by grind[eA]
 | n+1,.block ..,s,b,_,_,_,_,_,_,_,_,_,_,_,_,_,_,_=>by grind[eA]
 | n+1,.loop ..,s,b,_,_,_,_,_,_,_,_,_,_,_,_,_,_,_=>by grind[eA]
 | n+1,.exit ..,s,b,_,_,_,_,_,_,_,_,_,_,_,_,_,_,_=>by grind[eA]
 | n+1,.ret,s,b,_,_,_,_,_,_,_,_,_,_,_,_,_,_,_=>by grind[eA]
 | n+1,.skip,s,b,_,_,_,_,_,_,_,_,_,_,_,_,_,_,_=>by grind[eA]
 | n+1,.label ..,s,b,_,_,_,_,_,_,_,_,_,_,_,_,_,_,_=>by grind[eA]
 | n+1,.goto ..,s,b,_,_,_,_,_,_,_,_,_,_,_,_,_,_,_=>by grind[eA]
 | n+1,.scope ..,s,b,_,_,_,_,_,_,_,_,_,_,_,_,_,_,_=>by grind[eA]
 | n+1,.rangeFunc ..,s,b,_,_,_,_,_,_,_,_,_,_,_,_,_,_,_=>by grind[eA]
 | n+1,.refuse ..,s,b,_,_,_,_,_,_,_,_,_,_,_,_,_,_,_=>by grind[eA]
def Bu{P:Program}{cp:Wl}(r:P.follows .mixedOrders=true)(l:je P cp){f:FuncId}{fn:Func}{c:Code}{tr:XN}{n:Nat}{s:Stm}(m:P.funcs[f]?=some fn)(h:fn.body=some c)
  (j:nodup tr=true) {np:Nat} (t:tr.take np=List.range np) (u:np<=tr.length) (I:np<=fn.ntmps) (B:eA P tr n c=some s) (o:DQ P fn.ntmps n c=true) {a:Nat} {args cargs:XV} {H:Heap} {φ:Map} {w:World} {R:Ending->World->Prop}
  (g:LRel φ args cargs) (i:args.length=np) (x:HRel φ a P.globals.size H w) (z:a<=H.length) {K:XV->Heap->Prop}
  (C:wpS cp H.length s (λq e H'=>q=.normal/\K e H') (args++List.replicate (tr.length-np) undef) H)
  (y:∀e H' a' w' d k,K e H'->dH tr e k->Tmps [] d fn.ntmps k a'->Eff φ a P.globals.size H.length H w d H' w'->(A8 n c).wp P (bodyPost P fn R) a' w'):Calls P f cargs.toArray w R:=by obtain⟨N,q,e,H',p,rfl,A⟩:=fg _ _ _ _ C;have b:=sound r l a N;apply calls_of_wp m h;refine w8 b (C4 r (AO cp N) b.toRet b.toPan) z (mn j) n c s B o φ H w _ _ _ (kM i t u<|mn j) (ll g byO) x (Nat.le_refl _) e H' (p N<|Nat.le_refl _) λa' w' d k D F G=>y e H' a' w' d k A D F G
def KL:Nat->Stm->Stm
 | 0,_=>.skip
 | n+1,.seq a b=>.seq a<|KL n b
 | _,s=>s
set_option exponentiation.threshold 20000 in
def wT{N:Nat}(h:(ba N).length<=512):(dZ 1000000000 N).length<=565:=by
 apply cU byO 565 N;have a:∀n,(ba N).length<=n->N<W32^n:=by
  have:=yd<|nP (B:=W32) Wd N
  grind[gj,Nat.lt_of_lt_of_le,Nat.pow_le_pow_right]
 grind
def Il{b:Nat}{l:XN}(h:Own lo 1 H v b<|l.map ed):∃a,v=.slice a l.length l.length:=by grind[Own.len]
def R2(N:Nat)(H:Heap)(S':XV)(H':Heap):Prop:=
 Ext H H'/\(∃b,S'[3]?=some (.slice (some ⟨b,0,some 1⟩) (dZ 1000000000 N).length (dZ 1000000000 N).length)/\H'.get b=some ((dZ 1000000000 N).map ed)) /\
 S'[1]?=some (.pointer<|some ⟨H.length,0,none⟩)/\∃u,H'.get H.length=some [.bool false,u]
open XCSc
def V0{N:Nat}(q0:lo<=H.length)(hv:IsN H v N)(I:(ba N).length<=512)(G:N≠0) :
  wpS cp lo (KL 5 vP) (λex S' H'=>ex=.normal/\R2 N H S' H') [v,undef,undef,undef,undef,undef,undef,undef,undef,undef,undef,undef,undef,undef,undef,undef,undef] H:=by
 have D:=hv;obtain⟨m,rfl,Q⟩:=hv;have t:=Q;obtain⟨ad,c0,rfl⟩:=Q.len;have a0:=wL G;unfold vP;simp[kB,KL,aC];refine aA ?_;refine ay ?_;have X:=Ext.push H<|some [.bool false,.slice ad (ba N).length c0];apply aB (Jb Wr (D.mono X) I);rintro r l ⟨f,rfl⟩;have g0:=f.get<|aX H _;have f:=f.of_push;have L:=f.1;(try simp[aC]);refine aK ?_ ?_<;>intro h
 .simp at h
 clear h;refine aK ?_ ?_<;>intro h
 .exact absurd (wK.1 Wy) G
 clear h;refine aA ?_;have C:SlW l (.slice ad (ba N).length c0)<|ba N:=t.mono f;clear Q t D;apply aj (λm S H'=>Ext l H'/\∃(M:Nat) (d:XN) (w q:Value) (b:Nat),m=M/\(d++dZ 1000000000 M=dZ 1000000000 N\/False)/\l.length<=b/\Own lo 1 H' w b (d.map ed)/\SlW H' q (ba M)/\(ba M).length<=512/\(∃(z:Nat->Value),S=[z 0,.pointer<|some ⟨H.length,0,none⟩,z 2,w,q,z 5,z 6,z 7,z 8,z 9,z 10,z 11,z 12,z 13,z 14,z 15,z 16])) N
 .exact⟨Ext.refl _,N,[],_,_,l.length,rfl,.inl rfl,Nat.le_refl _,Own.nil byO,C,I,aH rfl⟩
 rintro M S H' ⟨F,_,d,w,q,b,rfl,i,J,u,hq,V,z,rfl⟩;obtain⟨aw,rfl⟩:=Il u;have U:=hq;obtain⟨aq,cq,rfl⟩:=hq.len;have O:=F.1;have l0:d.length<=565:=by
  have:=congrArg List.length<|i.resolve_right id;have h9:=wT I;rw[as₀]at this;omega
 (try simp only[aC]);refine aK ?_ ?_<;>intro h
 .have p:M≠0:=by
   rintro rfl;rw[show ba 0=[] from cQ _]at h;simp at h
  clear h;refine aA ?_;refine ay ?_;apply aB (Ur (by_:=1000000000) byO U byO (mi M) XC byO);obtain⟨e1,e2⟩:=Ea (N:=M) (by_:=1000000000) byO;rw[e1,e2];rintro r o ⟨j,q',rfl,y,g⟩;replace g:=Or.inr (a:=False) g;have b0:M%1000000000<1000000000:=Nat.mod_lt _ byO;have P:=j.1;obtain⟨b',u,J,j0⟩:=Lh u (A:=l.length) J (n:=o.length+1) byO byO;generalize hR:M%1000000000=R at *;refine aA ?_;have k:Ext o<|o++[some [ed R]]:=Ext.app _ _;refine ay ?_;apply dD (c:=[ed R]) ((u.mono j).mono k) Wr byO byO Wr aI Wc rfl rfl;intro w' Z x s o0;have Y:=s.ext (F.trans<|j.trans k) J;have T:Own lo 1 Z w' (o.length+1)<|(d++[R]).map ed:=by simpa using x
  clear x;have W:SlW Z q'<|ba<|M/1000000000:=JZ (y.mono k) s (λb2 o2 s0 n2 c2 e=>by rw[Wb g]at e;cases e;omega);clear y g;refine aA ?_;simp only[bJ];refine⟨M/1000000000,Nat.div_lt_self byO byO,Y,_,d++[R],w',q',o.length+1,rfl,.inl ?_,byO,T,W,?_,aH rfl⟩
  .rw[<-i.resolve_right id,dF byO p,hR];simp
  .refine Nat.le_trans (BP<|Nat.div_le_self M 1000000000) V
 .have p:M=0:=by
   apply Decidable.byContradiction;intro p;have:=wL p;simp only[ai₀]at h;omega
  clear h;subst p;have i:=i.resolve_right id;rw[cQ,List.append_nil]at i;obtain⟨e0,⟨hw,K⟩|⟨n,r0,hn,hw,hg⟩⟩:=u
  .have:d=[]:=by simpa using K
   rw[this]at i;have:=dF byO G (B:=1000000000);rw[<-i]at this;cases this
  cases hw;(try simp only[aC]);simp only[i]at hg ⊢;exact⟨trivial,f.trans F,⟨b,rfl,hg⟩,rfl,_,F.get g0⟩
open Go.Shelf Go.RowKit Go.Lib
structure Kp (w w':World):Prop where
 size:w.heap.size<=w'.heap.size
 block:∀b,b<w.heap.size->w'.heap[b]?=w.heap[b]?
 os:w'.os=w.os
 out:w'.output=w.output
theorem Kp.refl(w:World):Kp w w:=⟨Nat.le_refl _,λ_ _=>rfl,rfl,rfl⟩
theorem Kp.trans{a b c:World}(h:Kp a b)(k:Kp b c):Kp a c:=
 ⟨Nat.le_trans h.size k.size,λi d=>(k.block i<|bd₀ d h.size).trans<|h.block i d,k.os.trans h.os,k.out.trans h.out⟩
theorem Kp.below{a w w':World}(h:Kp a w)(k:Below a.heap.size w w'):Kp a w':=
 ⟨Nat.le_trans h.size k.size,λi b=>(k.block i b).trans<|h.block i b,k.os.trans h.os,k.output.trans h.out⟩
theorem Kp.cell{w w':World}(h:Kp w w'){p:Addr}{v:Value}(a:w.cell? p=some v):w'.cell? p=some v:=by grind[World.cell?,block]
theorem Kp.builder{w w':World}(h:Kp w w'){T e:TypeId}{B b:Nat}{p:Value}{f:XV}(t:Lib.BuilderAt T e B b p f w):Lib.BuilderAt T e B b p f w':=by
 have i:∀{g:Nat} {o:Obj},w.heap[g]?=some o->w'.heap[g]?=some o:=λ{g o} u=>by
  grind[block]
 have⟨n,v,q,⟨r,d⟩,s⟩:=t;refine⟨n,v,i q,⟨r,?_⟩,s⟩;rcases d with d|⟨g,a,c,j,k,l,m⟩
 .exact .inl d
 .exact .inr ⟨g,a,c,j,k,i l,m⟩
theorem Kp.isB{w w':World}(h:Kp w w'){T e:TypeId}{B b:Nat}{a:XV}(c:Lib.IsBuilder T e B b a w):Lib.IsBuilder T e B b a w':=c.imp h.builder h.builder
def nine(g:Nat):XU:=List.replicate (9-(Lib.decDigits g).length) 48++Lib.decDigits g
def oC(g:Nat->Nat)(n:Nat):Nat->XU
 | 0=>[]
 | k+1=>oC g n k++(if k=0 then Lib.decDigits (g<|n-1) else nine (g<|n-1-k))
theorem Gy{g:Nat}(h:g<1000000000):(Lib.decDigits g).length<=9:=by
 rw[Lib.decDigits_length];refine Decidable.byContradiction λc=>?_;have e:1<=g:=by
  grind[nDigits_small]
 have:∀k,10^k<=g->g<10^(k+1)->k<=8:=λk b _=>by
  refine Decidable.byContradiction λd=>?_;have:10^9<=10^k:=Nat.pow_le_pow_right Wd byO;omega
 have a:∃k,10^k<=g/\g<10^(k+1):=by
  have:∀m,g<10^m->∃k,10^k<=g/\g<10^(k+1):=by
   intro m
   induction m with
   | zero=>omega
   | succ m f=>
    grind
  exact this 9 byO
 grind[nDigits_unique]
def PG(g:Nat):1<=(Lib.decDigits g).length:=by grind[decDigits_length,nDigits_pos]
def uM{g:Nat->Nat}{n:Nat}(a:∀j,g j<1000000000):∀k,(oC g n k).length<=9*k
 | 0=>by simp[oC]
 | k+1=>by
  have:=uM a (n:=n) k
  grind[Gy,oC,nine]
set_option maxHeartbeats 4000000 in
set_option maxRecDepth 100000 in
def TT{fn:Func}(hres:fn.results=#[.tmp 2])(z:Nat->Value)(wx:World)(pb ps gb gs n cap:Nat)(g:Nat->Nat)(R:Ending->World->Prop)(hn:0<n)(hn2:n<=565)
  (hneg:wx.cell? ⟨pb,ps,none⟩=some (.bool false)) (hgc:∀j,j<n->wx.cell? ⟨gb,gs+j,none⟩=some (.int .u32 (g j:Nat))) (hg:∀j,g j<1000000000)
  (htab:∀i,i<20->wx.cell? ⟨0,i,none⟩=some (.int .u64 ((10^i:Nat):Int)))
  (hrep:∀W k,k<=8->Kp wx W->Calls Tryz.prog 219 #[.string ⟨#[48]⟩,.int .i64 (k:Nat)] W λe W'=>e=.returned (.string ⟨(List.replicate k (48:UInt8)).toArray⟩)/\Kp W W')
  (hR:∀W',Kp wx W'->R (.returned<|.string ⟨(oC g n n).toArray⟩) W') :
  (A8 5<|Tryz.f208.body.getD .skip).wp Tryz.prog (bodyPost Tryz.prog fn R)
   { tmps:=#[z 0,.pointer<|some ⟨pb,ps,none⟩,z 2,.slice (some ⟨gb,gs,none⟩) n cap,z 4,z 5,z 6,z 7,z 8,z 9,z 10,z 11,z 12,z 13,z 14,z 15,z 16,z 17,z 18,z 19,z 20,z 21,z 22,z 23,z 24,z 25,z 26,z 27,z 28,z 29,z 30,z 31,z 32,z 33,z 34,z 35,z 36,z 37,z 38,z 39,z 40,z 41,z 42,z 43,z 44,z 45,z 46,z 47,z 48,z 49,z 50,z 51,z 52,z 53,z 54,z 55,z 56,z 57,z 58],defers:=[] } wx:=by
 have mixed:Tryz.prog.follows .mixedOrders=true:=Wf
 have e64:∀args w,(callFunc 217 args).run Tryz.prog w=.ok (.enter 217 args) w:=enters_of Tryz.func217 Wf rfl;have e65:∀args w,(callFunc 218 args).run Tryz.prog w=.ok (.enter 218 args) w:=enters_of Tryz.func218 Wf rfl;have e66:∀args w,(callFunc 219 args).run Tryz.prog w=.ok (.enter 219 args) w:=enters_of Tryz.func219 Wf rfl;have e67:∀args w,(callFunc 220 args).run Tryz.prog w=.ok (.enter 220 args) w:=enters_of Tryz.func220 Wf rfl;have HGC:=Lib.hid hgc;have HG:=Lib.hid hg;have HT:=Lib.hid htab;have HR:=Lib.hid hrep;have HRR:=Lib.hid hR;unfold Tryz.f208;simp[Option.getD,A8];have b0:Kp wx<|wx.alloc<|.cells #[.pointer none,.slice none 0 0] 283:=(Kp.refl wx).below<|(Below.refl _ wx).alloc (Nat.le_refl _) _;have hneg':=b0.cell hneg;have hB0:Lib.IsBuilder 283 5 wx.heap.size wx.heap.size []<|wx.alloc<|.cells #[.pointer none,.slice none 0 0] 283:=Lib.fresh_isBuilder 283 5 wx;have H0:=Lib.hid b0;have HB0:=Lib.hid hB0
 go_wp2
 go_loopg [7] n λk s7 wr=>k<=n/\s7=.int .i64 ((k:Int)-1)/\Lib.IsBuilder 283 5 wx.heap.size wx.heap.size (Lib.byteCells<|oC g n<|n-k) wr/\Kp wx wr
 case atStart=>exact⟨Nat.le_refl _,rfl,by rw[Nat.sub_self];exact HB0.out,H0.out⟩
 case round=>
  obtain⟨hk,rfl,hB,hkp⟩:=hrel;cases gk with
  | zero=>
   rw[Nat.sub_zero]at hB;have cS:=Du wx.heap.size wx.heap.size (oC g n n) wr hB hkp.size
   go_wp2_with (go_at_fn 220;go_fit cS;rintro e W3 ⟨rfl,b3⟩)
   exact bodyPost_ret (results_tmp hres _ _ _) rfl<|HRR.out _<|hkp.below b3
  | succ k=>
   have e1:(((k+1:Nat):Int)-1)=(k:Int):=byO;rw[e1];have hkn:k<n:=byO;have hc:=hkp.cell<|HGC.out k hkn;have hgk:=HG.out k;generalize hG:g k=G at *;have hw:IntKind.i64.wrap (G:Int)=(G:Int):=by rw[IntKind.wrap_i64];omega
   have cI:=Sb G byO wr λi hi=>hkp.cell<|HT.out i hi;have hdl:=Gy hgk;obtain⟨S,hS⟩:∃S:ByteArray,(⟨(Lib.decDigits G).toArray⟩:ByteArray)=S:=⟨_,rfl⟩;have hSd:S.data.toList=Lib.decDigits G:=by rw[<-hS]
   have hSz:S.size=(Lib.decDigits G).length:=by rw[Lib.size_eq,hSd]
   rw[hS]at cI;generalize hL:(Lib.decDigits G).length=L at *;have HSd:=Lib.hid hSd;have HS:=Lib.hid hS;have HG2:=Lib.hid hG
   go_wp2_with (go_at_fn 217;go_fit cI;rintro e W1 ⟨rfl,kk,os,rfl⟩)
   all_goals have k1:Kp wr<|Sort.grow (wr.drewN kk) os:=(Kp.refl wr).below<|Lib.below_grow wr.heap.size wr (Nat.le_refl _) kk os
   all_goals have hk1:=hkp.trans k1
   all_goals have hB1:=k1.isB hB
   all_goals generalize Sort.grow (wr.drewN kk) os=W1 at *
   .have hlt:k+1≠n:=byO
    have hl1:=PG G;rw[hL]at hl1;have cR:=HR.out W1 (9-L) byO hk1;rw[show((9-L:Nat):Int)=9-(L:Int) by omega]at cR
    go_fit cR
    rintro e W2 ⟨rfl,k2⟩;have hk2:=hk1.trans k2;have hB2:=k2.isB hB1;have ho:=uM HG.out (n:=n)<|n-(k+1);have cW:=writeString wx.heap.size wx.heap.size _ ⟨(List.replicate (9-L) (48:UInt8)).toArray⟩ W2 hB2 (by
     rw[Lib.byteCells_length,Lib.size_eq];simp;omega) hk2.size
    obtain⟨Z,hZ⟩:∃Z:ByteArray,(⟨(List.replicate (9-L) (48:UInt8)).toArray⟩:ByteArray)=Z:=⟨_,rfl⟩;have hZd:Z.data.toList=List.replicate (9-L) 48:=by rw[<-hZ]
    rw[hZ]at cW ⊢;have HZd:=Lib.hid hZd
    go_wp2_with (go_at_fn 218;go_fit cW;rintro e W3 ⟨rfl,h3,b3⟩)
    have hk3:=hk2.below b3;have cV:=writeString wx.heap.size wx.heap.size _ S W3 (Or.inr h3) (by
     rw[as₀,Lib.byteCells_length,Lib.strCells_length,Lib.size_eq,HZd.out,hSz];simp;omega) hk3.size
    go_wp2_with (go_at_fn 218;go_fit cV;rintro e W4 ⟨rfl,h4,b4⟩)
    go_roundg k
    case measure=>omega
    case rel=>
     refine⟨byO,rfl,Or.inr ?_,hk3.below b4⟩;rw[show n-k=(n-(k+1))+1 by omega];simp[oC];rw[if_neg byO,show n-1-(n-(k+1))=k by omega,HG2.out,nine,hL];rw[Lib.strCells_eq,Lib.strCells_eq,HZd.out,HSd.out,<-Lib.byteCells_append,<-Lib.byteCells_append,ba₀]at h4;exact h4
   .have hlt:k+1=n:=byO
    have ho:=uM HG.out (n:=n)<|n-(k+1);have cV:=writeString wx.heap.size wx.heap.size _ S W1 hB1 (by
     rw[Lib.byteCells_length];omega) hk1.size
    go_fit cV
    rintro e W4 ⟨rfl,h4,b4⟩
    go_wp2
    go_roundg k
    case measure=>omega
    case rel=>
     refine⟨byO,rfl,Or.inr ?_,hk1.below b4⟩;rw[show n-k=(n-(k+1))+1 by omega];simp[oC];rw[if_pos byO,show n-1=k by omega,HG2.out];rw[Lib.strCells_eq,HSd.out,<-Lib.byteCells_append]at h4;exact h4
def mA:XV->Option XN
 | []=>some []
 | .int .u32 (.ofNat k)::r=>match mA r with
  | some l=>if k<W32 then some (k::l) else none
  | none=>none
 | _=>none
def AG(H:Heap):Value->Option XN
 | .slice none 0 0=>some []
 | .slice (some ⟨b,o,sp⟩) n cap=>match H.get b with
  | some xs=>if o+n<=xs.length/\n<=cap/\(sp=none\/sp=some 1) then mA ((xs.drop o).take n) else none
  | none=>none
 | _=>none
def tt:Nat->XV->Bool
 | i,[]=>decide<|i=20
 | i,.int .u64 v::r=>decide (v=((10^i:Nat):Int))&&tt (i+1) r
 | _,_=>false
def BF(N:Nat):XU:=if N=0 then[48] else oC (λj=>(dZ 1000000000 N).getD j 0) (dZ 1000000000 N).length (dZ 1000000000 N).length
def g45:XV->Heap->Option Value
 | [.agg cs],H=>match cs.toList with
  | [.bool false,m]=>match AG H m,H.get 0 with
   | some l,some t=>if tt 0 t&&(decide (l.length<=512)&&decide (dZ W32 (dX W32 l)=l)) then some (eI<|BF<|dX W32 l) else none
   | _,_=>none
  | _=>none
 | _,_=>none
theorem uy:∀{l:XN},(∀d ∈ l,d<W32)->mA (l.map ed)=some l
 | [],_=>rfl
 | k::l,h=>by
  have b:=uy (l:=l) λd a=>h d (by simp[a])
  grind[mA]
def uH:∀{c:XV} {l:XN},mA c=some l->c=l.map ed/\∀d ∈ l,d<W32
 | [],l,h=>by grind[mA]
 | x::c,l,h=>by
  unfold mA at h;split at h<;>try (simp at h)
  .simp_all
  rename_i k r e;cases e;split at h<;>try simp at h;done
  rename_i l' a;split at h<;>try simp at h;done
  simp at h;subst h;obtain⟨rfl,b⟩:=uH a
  simp_all
theorem JA{l:XN}(h:SlW H v l)(j:∀d ∈ l,d<W32):AG H v=some l:=by
 rcases h with ⟨rfl,rfl⟩|⟨b,o,sp,a,xs,rfl,c,e,f,g,i⟩
 all_goals grind[AG,uy]
theorem Ig{l:XN}(h:AG H v=some l):SlW H v l/\∀d ∈ l,d<W32:=by
 unfold AG at h;split at h
 .simp at h;subst h;exact⟨.inl ⟨rfl,rfl⟩,Wc⟩
 next b o sp n a=>
  split at h<;>try simp at h;done
  rename_i xs f;split at h<;>try (simp at h)
  rename_i c;have⟨e,g⟩:=uH h;have i:n=l.length:=by
   have:=congrArg List.length e
   grind
  subst i;exact⟨.inr ⟨b,o,sp,a,xs,rfl,f,e,c.1,c.2.2,c.2.1⟩,g⟩
 .grind
def zZ:∀{c:XV} {i:Nat},tt i c=true->∀j,i+j<20->c[j]?=some (.int .u64 ((10^(i+j):Nat):Int))
 | [],i,h,j,a=>by grind[tt]
 | x::c,i,h,j,a=>by
  unfold tt at h;split at h
  .simp_all
  next i v r e=>
   cases e;simp at h;cases j with
   | zero=>simp[h.1]
   | succ j=>
    have:=zZ h.2 j byO
    grind
  .grind
def jG:XV:=(List.range 20).map λi=>.int .u64 ((10^i:Nat):Int)
theorem EZ:tt 0 jG=true:=Wd
def PX{N:Nat}(h:IsN H v N)(a:(ba N).length<=512)(c:H.get 0=some jG):g45 [v] H=some (eI<|BF N):=by obtain⟨m,rfl,b⟩:=h;have e:dX W32 (ba N)=N:=gj Wd N;simp[g45,JA b<|mi N,c,EZ,e];simp[a]
def Q0{args:XV}{r:Value}(h:g45 args H=some r):∃v N t,args=[v]/\IsN H v N/\(ba N).length<=512/\H.get 0=some t/\tt 0 t=true/\r=eI (BF N):=by
 unfold g45 at h;split at h<;>try simp at h;done
 rename_i _ b;split at h<;>try simp at h;done
 rename_i m e;split at h<;>try simp at h;done
 rename_i l t d c;split at h<;>try simp at h;done
 rename_i a;simp at a;simp at h;subst h;refine⟨_,dX W32 l,t,rfl,⟨m,?_,by grind[Ig]⟩,Wx,c,a.1,rfl⟩;rw[show b=#[.bool false,m] from by grind]
noncomputable def cpf(f:FuncId):Option CF:=if f=208 then some CQ else cp f
def MM:Sub cp cpf:=λf cf h=>by
 unfold cpf;split
 next e=>subst e;cases h
 .exact h
def vW(f:FuncId)(cf:CF)(h:cp f=some cf):∃t,aD Tryz.prog t f=some cf:=by
 unfold cp at h;split at h
 all_goals first|exact sn f cf h|exact so f cf h|exact sq f cf h|exact sr f cf h|exact ss f cf h|exact su f cf h|exact sw f cf h|exact tB f cf h|exact tC f cf h|exact tD f cf h|exact qu f cf h|exact qv f cf h|exact qw f cf h|exact qx f cf h|exact qy f cf h|exact qz f cf h|exact a f cf h|exact b f cf h|cases h
def ED:je Tryz.prog cpf:=λf cf h=>by
 unfold cpf at h;split at h
 next e=>subst e;cases h;exact .inl ⟨OQ,kR⟩
 .exact .inl<|vW f cf h
def Q3(a n:Nat):RunOK Tryz.prog a Tryz.prog.globals.size<|run cpf n:=sound mixed ED a n
def TM{R:Wq}{a:Value}(h:wpS cpf lo vP (gB CQ R) [a,undef,undef,undef,undef,undef,undef,undef,undef,undef,undef,undef,undef,undef,undef,undef,undef] H):Ev cpf lo 208 [a] H R:=kh (cf:=CQ) rfl rfl rfl h
def S8(k:lo<=H.length)(g:IsN H v 0) :
  Ev cpf lo 208 [v] H λr H'=>r=eI [48]:=by
 have d:=g;obtain⟨m,rfl,c⟩:=g;have a:=c;have b:ba 0=[]:=cQ _;obtain⟨i,j,rfl⟩:=c.len;rw[b]at a d c;apply TM;unfold vP CQ;simp[kB,aC];rw[b];refine aA ?_;refine ay ?_;have e:=Ext.push H<|some [.bool false,.slice i ([]:XN).length j];apply aB ((Jb (N:=0) Wr ⟨_,rfl,by rw[b];exact a.mono e⟩ (by rw[b];simp)).sub MM);rintro r l ⟨f,rfl⟩;have n:=f.get<|aX H _;(try simp[aC]);refine aK ?_ ?_<;>intro h
 .grind
 refine aK ?_ ?_<;>intro h
 .clear h
  refine aA ?_;refine aL ?_;rfl
 .grind
def x9{φ:Map}{b a G:Nat}{w:World}(h:HRel φ b G H w)(l:H.length<=a):HRel φ a G H w:=
 ⟨λi c e=>by
  have⟨p,f,g⟩:=h.cell i c e;exact⟨p,f,g.mono (Map.le_refl φ) λk=>absurd (Heap.get_lt e) byO⟩,λi j c d p q e _ _ _ k=>absurd (Heap.get_lt e) byO,h.dom,h.glob,h.plc⟩
def tM{φ:Map}{a G lo:Nat}{w w':World}(h:HRel φ a G H w)(k:Kp w w'):Eff φ a G lo H w φ H w':=
 ⟨Map.le_refl φ,h.ext k.size k.block,Heap.keeps_refl H,k.size,λb c _=>k.block b c,λi p d e=>by simp_all,k.os,k.out⟩
def qP{φ d:Map}{a G:Nat}{H H':Heap}{w w':World}(e:Eff φ a G H.length H w d H' w'):Kp w w':=
 ⟨e.size,λb f=>e.keep b f λi c p h g _=>absurd (Heap.get_lt g) byO,e.os,e.out⟩
def V1{φ:Map}{a:Nat}{W:World}(c:HRel φ a Tryz.prog.globals.size H W){k:Nat}(f:k<=8) :
  Calls Tryz.prog 219 #[.string ⟨#[48]⟩,.int .i64 k] W λe b=>e=.returned (.string ⟨(List.replicate k (48:UInt8)).toArray⟩)/\Kp W b:=by refine(mK (cargs:=[.string ⟨#[48]⟩,.int .i64 k]) Sr (x9 c<|Nat.le_refl _) (LRel.cons (.string _)<|LRel.cons (.int _ _)<|LRel.nil φ)<|V3 k f).mono ?_;rintro e b ⟨v,i,H',h,⟨rfl,_⟩,rfl,d,g⟩;cases g;exact⟨rfl,qP d⟩
def Lo{φ:Map}{i o:Nat}{y:Value}(h:VRel φ (.pointer<|some ⟨i,o,none⟩) y):∃p,φ.c i=some p/\y=.pointer (some ⟨p.b,p.s+o,none⟩):=by
 cases h with
 | ptr i o p h=>simp_all
def FU{φ:Map}{i z n:Nat}{y:Value}(h:VRel φ (.slice (some ⟨i,0,some z⟩) n n) y)(b:0<n):∃p c',φ.c i=some p/\y=.slice (some ⟨p.b,p.s,none⟩) n c':=by
 cases h with
 | sliceIn i o l c z p o' c' e d f a g=>
  rcases a with rfl|a
  all_goals simp_all
 | empty=>omega
def ru{φ:Map}{a G:Nat}{w:World}(h:HRel φ a G H w){i:Nat}{c:XV}{p:Abs.Place}(b:H.get i=some c)(d:φ.c i=some p){j:Nat}(m:c[j]?=some v) :
  ∃u,w.cell? ⟨p.b,p.s+j,none⟩=some u/\VRel φ v u:=by
 have⟨arr,ty,l,e,f,g,k⟩:=h.crel.cell b d
 grind[World.cell?]
def KX(a:Act)(f:a.tmps.size=59)(c:a.defers=[])(z:Nat->Value)(g:∀i,z i=a.tmps.getD i undef) :
  a={ tmps:=#[z 0,z 1,z 2,z 3,z 4,z 5,z 6,z 7,z 8,z 9,z 10,z 11,z 12,z 13,z 14,z 15,z 16,z 17,z 18,z 19,z 20,z 21,z 22,z 23,z 24,z 25,z 26,z 27,z 28,z 29,z 30,z 31,z 32,z 33,z 34,z 35,z 36,z 37,z 38,z 39,z 40,z 41,z 42,z 43,z 44,z 45,z 46,z 47,z 48,z 49,z 50,z 51,z 52,z 53,z 54,z 55,z 56,z 57,z 58],defers:=[] }:=by
 have b:a.tmps=((List.range 59).map z).toArray:=by
  apply Array.ext_getElem?;intro i;simp ;by_cases e:i<59
  all_goals simp_all
 cases a with
 | mk h d=>
  simp only at c b;rw[c,b];rfl
def EK:xF Tryz.prog 208 1 g45:=by
 refine⟨⟨Tryz.f208,Tryz.func208,rfl,Wd⟩,?_⟩;intro P args H r S hg φ w cargs y a;obtain⟨v,N,t,rfl,T,Q,ht,p,rfl⟩:=Q0 hg;by_cases q:N=0
 .subst q
  refine(mK Q3 (x9 y<|Nat.le_refl _) a<|S8 (Nat.le_refl _) T).mono ?_;rintro e w' ⟨v',cv,H',O,rfl,rfl,h,J⟩;cases J;exact⟨_,φ,rfl,.string _,tM y<|qP h⟩
 .have C:Tryz.f208.ntmps=59:=Wf
  apply Bu (cp:=cp) mixed yt (f:=208) (fn:=Tryz.f208) (c:=Tryz.f208.body.getD .skip) (tr:=OQ) (n:=5) (s:=KL 5 vP) Tryz.func208 rfl Wd (np:=1) rfl Wd Wd Wf Wf a rfl (x9 y<|Nat.le_refl _) (Nat.le_refl _) (K:=R2 N H) (V0 (Nat.le_refl _) T Q q);rintro S' H' a' w' O T' ⟨hx,⟨b,h3,hb⟩,h1,u,l⟩ R z h;have X:=z.rel 1;have Y:=z.rel 3;have Z:=R.2 1 1 rfl;have s3:=R.2 3 3 rfl;rw[h1]at Z;rw[h3]at s3;rw[<-Option.some.inj Z]at X;rw[<-Option.some.inj s3]at Y;have o:0<(dZ 1000000000 N).length:=by
   rw[dF byO q];simp
  have F:=wT Q;have⟨U,G,r1⟩:=Lo X;have⟨V,c3,I,r3⟩:=FU Y o;have⟨x1,M,L⟩:=ru h.rel l G (j:=0) rfl;cases L;have D:=KX a' (by rw[z.size,C]) z.defers (λi=>a'.tmps.getD i undef) λ_=>rfl;rw[D];simp only[r1,r3];apply TT rfl (λi=>a'.tmps.getD i undef) w' U.b (U.s+0) V.b V.s (dZ 1000000000 N).length c3 (λj=>(dZ 1000000000 N).getD j 0) _ o F M
  .intro j A
   have⟨x,d,g⟩:=ru h.rel hb I (j:=j) (v:=ed<|(dZ 1000000000 N).getD j 0) (by simp[A]);cases g;exact d
  .intro j
   rw[au₀];by_cases A:j<(dZ 1000000000 N).length
   .rw[bc₀ A]
    exact nP byO N _<|List.getElem_mem A
   .rw[av₀ byO];simp
  .intro i hi
   have⟨m,hm⟩:=h.rel.glob 0 (by rw[show Tryz.prog.globals.size=4 by kernel_rfl];omega);have⟨x,d,g⟩:=ru h.rel (hx.get ht) (Map.of_some.2 ⟨hm,rfl⟩)<|zZ p i byO;rw[Nat.zero_add]at d g;cases g;exact d
  .intro W k hk B
   exact V1 (h.rel.ext B.size B.block) hk
  .intro W' B
   refine⟨_,φ,rfl,?_,tM y<|(qP h).trans B⟩;simp[BF,if_neg q];exact .string _
end Go.Proofs.YtgiojnobcjnibaaGreatDoor
