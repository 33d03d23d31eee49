/- Lemmas. -/
import Derived.Test.YtgiojnobcjnibaaGreatDoorH22
set_option linter.all false
namespace Go.Proofs.YtgiojnobcjnibaaGreatDoor
open Go.Abs Go.RS
variable{H:Heap}{lo:Nat}{v:Value}
set_option maxRecDepth 20000
def cdI(ch sz po r b:Int):Value:=.agg #[.int .i64 ch,.int .i64 sz,.int .i64 po,.int .i64 r,.int .i64 b]
def yh(ch sz po r b:Int):Prop:=(∃f,OkF ch sz po f)/\1<=r/\r<=sz-2/\0<=b/\b<=sz-2
def Ih{ch sz po:Int}(h:∃f,OkF ch sz po f):2<=sz/\sz<=4096:=by have⟨f,a,b,_⟩:=h;have:=a.two;omega
namespace XRa
def xtr:=zzi @Int.cast_ofNat_Int<|zzi @fv.eq_1<|zzi @fvf.eq_1<|zzi @ite_self.{1} (zzi @mf<|zzi @me @md)
end XRa
open XRa
def fits{ch sz po r b:Int}(c:-9223372036854775000<=sz)(a:sz<=9223372036854775807):Ev cp lo 112 [fv ch sz po,.int .i64 r,.int .i64 b] H λv H'=>Ext H H'/\v=.bool (((decide (1<=r)&&decide (r<=sz-2))&&decide (0<=b))&&decide (b<=sz-2)):=by unfold fv;apply stG rfl rfl;unfold Ma;simp[kB,aC];refine aA ?_;refine aL ?_;exact⟨Ext.app _ _,rfl⟩
set_option maxHeartbeats 1000000 in
def D2{ch sz po r b:Int}{l:XI}(w:po<=9223372036854775807)(q:SlI H v l)(m:l.length<=9223372036854775807):Ev cp lo 67 [cdI ch sz po r b,v] H λv H'=>Ext H H'/\∃t,v=.bool t/\(t=true↔yh ch sz po r b/\inF sz l=true):=by
 have k:=q;obtain⟨B,c,rfl⟩:=q.len;unfold cdI;apply stG rfl rfl;unfold Rm;simp only[kB,aC];refine aA ?_;refine ay ?_;apply aB (valid (ch:=ch) (sz:=sz) (po:=po) w);rintro v u ⟨d,y,rfl,i⟩;have o:u.get H.length=some _:=d.get aM;have d:=d.of_app;cases y with
 | false=>
  have g:¬ ∃f,OkF ch sz po f:=λh=>by have:=i.2 h;cases this
  (try simp only[aC]);refine aU (t:=false) aM dY eU (λh=>by cases h) λ_=>?_;(try simp only[aC]);refine aU (t:=false) aM dY eU (λh=>by cases h) λ_=>?_;refine aA ?_;refine aL ?_;exact⟨d,false,rfl,by simp;intro h;exact absurd h.1 g⟩
 | true=>
  have p:=i.1 rfl;have x:=Ih p;(try simp only[aC]);refine aU (t:=true) aM dY eU (λ_=>⟨_,aM,?_⟩) (λh=>by cases h);apply aB (fits (ch:=ch) (sz:=sz) (po:=po) (r:=r) (b:=b) byO byO);rintro v z ⟨a,rfl⟩;have o:=a.get o;have a:=d.trans a;generalize j:(((decide (1<=r)&&decide (r<=sz-2))&&decide (0<=b))&&decide (b<=sz-2))=s;have e:s=true↔1<=r/\r<=sz-2/\0<=b/\b<=sz-2:=by
   rw[<-j];simp[ac₀,af₀];omega
  clear j;cases s with
  | false=>
   have g:¬ (1<=r/\r<=sz-2/\0<=b/\b<=sz-2):=λh=>by have:=e.2 h;cases this
   (try simp only[aC]);refine aU (t:=false) aM dY eU (λh=>by cases h) λ_=>?_;refine aA ?_;refine aL ?_;exact⟨a,false,rfl,by simp;intro h;exact absurd h.2 g⟩
  | true=>
   (try simp only[aC]);refine aU (t:=true) aM dY eU (λ_=>⟨_,aM,?_⟩) (λh=>by cases h);apply aB (EG (ch:=ch) (sz:=sz) (po:=po) (k.mono a) m);rintro v A ⟨n,rfl⟩;refine aA ?_;refine aL ?_;exact⟨a.trans n,inF sz l,rfl,⟨λh=>⟨⟨p,e.1 rfl⟩,h⟩,λh=>h.2⟩⟩
def VJ{ch sz po r b n:Int}:Ev cp lo 68 [cdI ch sz po r b,.int .i64 n] H λv H'=>Ext H H'/\v=.bool (decide (r<n)&&decide (n<sz)):=by unfold cdI;apply stG rfl rfl;unfold Rn;simp[kB,aC];refine aA ?_;refine aL ?_;exact⟨Ext.app _ _,rfl⟩
def Iw{ch sz po r b:Int}(g:sz<=9223372036854775807):Ev cp lo 79 [cdI ch sz po r b] H λv H'=>Ext H H'/\∃t,v=.bool t/\(t=true↔yh ch sz po r b):=by
 unfold cdI;apply stG rfl rfl;unfold Ro;simp only[kB,aC];refine aA ?_;refine ay ?_;apply aB (Qt (ch:=ch) (sz:=sz) (po:=po) g);rintro v j ⟨f,i,rfl,a⟩;have m:j.get H.length=some _:=f.get aM;have f:=f.of_app;cases i with
 | false=>
  refine aA ?_;refine aL ?_;refine⟨f,false,rfl,?_⟩;simp only[ah₀,false_iff]at a ⊢;exact λh=>a h.1
 | true=>
 have k:=Ih<|a.1 rfl;generalize l:true=i at a;refine aA ?_;refine aL ?_;refine⟨f,_,rfl,?_⟩;subst l;simp[ac₀,af₀,a.1 rfl,true_and,yh];constructor
 .rintro⟨⟨⟨b,c⟩,d⟩,e⟩;exact⟨b,c,d,e⟩
 .rintro⟨b,c,d,e⟩;exact⟨⟨⟨b,c⟩,d⟩,e⟩
def wa{ch sz po:Int}{l:XI}(A:SlI H v l)(F:l.length<=9223372036854775807):Ev cp lo 80 [fv ch sz po,v] H λv H'=>Ext H H'/\v=.bool (inF sz l):=by
 have s:=A;obtain⟨C,c,rfl⟩:=A.len;unfold fv;apply stG rfl rfl;unfold Rp;simp[kB,aC];refine aA ?_;generalize r:H++_=G at *;have u:G.get H.length=some [.int .i64 ch,.int .i64 sz,.int .i64 po]:=by rw[<-r];exact aI
 have j:Ext H G:=by rw[<-r];exact Ext.app _ _
 apply aP (λi S H'=>Ext G H'/\inF sz (l.take i)=true/\∃(z:Nat->Value),S=[z 0,.slice C l.length c,.pointer<|some ⟨H.length,0,none⟩,.bool false,.int .i64 i,z 5]) l.length
 .exact⟨Ext.refl _,rfl,aH rfl⟩
 .rintro i S H' n ⟨k,-,z,rfl⟩
  exact⟨_,aM,Wc⟩
 .rintro i S B n ⟨k,a,z,rfl⟩
  have⟨b,o,sp,D,xs,e,w,m,I⟩:=s.els 0 byO;cases e;have w:=(j.trans k).get w;have u:=k.get u;have y:=m i n;have q:=kN (p:=λx=>!(decide (x<0) || decide (sz<=x))) n;refine bV ?_;apply aB (ris (ch:=ch) (sz:=sz) (po:=po) (x:=l.getD i 0));rintro v J ⟨f,rfl⟩;have f:=k.trans f;have g:(!(decide (l.getD i 0<0) || decide (sz<=l.getD i 0)))=(decide (0<=l.getD i 0)&&decide (l.getD i 0<sz)):=by
   rw[Bool.eq_iff_iff];simp
  rw[g]at q;(try simp[aC]);refine aK ?_ ?_<;>intro h
  .have t:inF sz l=false:=by
    rw[Bool.eq_false_iff];intro d;have:=lU.1 d (l.getD i 0) (by rw[au₀,bc₀ n];exact List.getElem_mem n);simp at h;simp at this;omega
   refine aA ?_;refine aL ?_;exact⟨j.trans f,by rw[t];rfl⟩
  .have d:inF sz (l.take<|i+1)=true:=by
    have h:(decide (0<=l.getD i 0)&&decide (l.getD i 0<sz))=true:=Wy
    unfold inF at a ⊢;rw[q,a,h];rfl
   refine aA ?_;exact⟨f,d,aH ncM⟩
 .rintro S B ⟨k,a,z,rfl⟩
  rw[List.take_of_length_le<|Nat.le_refl _]at a;refine aA ?_;refine aL ?_;exact⟨j.trans k,by rw[a];rfl⟩
def TU{f:FD}{l:XI}(h:inF (f.q:Int) l=true):∃c:List<|El f,l=c.map λx=>(x.val:Int):=by
 induction l with
 | nil=>exact⟨[],rfl⟩
 | cons a l g=>
  have d:=lU.1 h;have i:=d a Wc;have⟨c,b⟩:=g<|lU.2 λx e=>d x Yf;refine⟨⟨a.toNat,byO⟩::c,?_⟩;rw[b];simp;omega
section
variable {f:FD}[OkC f]
def kK{l:List<|El f}(h:SlI H v<|lz l):SlE H v l:=by
 rcases h with ⟨c,d⟩|⟨b,o,sp,a,xs,c,d,e,g⟩
 .exact .inl ⟨c,by simpa[lz]using d⟩
 .refine .inr ⟨b,o,sp,a,xs,by rw[c];simp[lz],d,?_,by simpa[lz]using g⟩
  simp[lz,ay₀,List.map_map]at e;exact e
structure CdOK (f:FD)(r b:Nat):Prop where
 r1:1<=r
 r2:r<=f.q-2
 b2:b<=f.q-2
def DI{r b:Nat}(h:CdOK f r b):yh (FD.ch f) f.q f.poly r b:=by have d:=qle (f:=f);have⟨a,b,c⟩:=h;exact⟨uI<|OkC.ok (f:=f),byO,byO,byO,byO⟩
end
end Go.Proofs.YtgiojnobcjnibaaGreatDoor
