/- Lemmas. -/
import Derived.Test.YtgiojnobcjnibaaGreatDoorH27
set_option linter.all false
set_option maxHeartbeats 8000000
set_option maxRecDepth 20000
namespace Go.Proofs.YtgiojnobcjnibaaGreatDoor
open Go.Abs
section
open Go.RS
variable{H:Heap}
section
variable {ch sz po r b:Int}{v ve:Value}{l:XI}{lo:Nat}{H:Heap}
open XUa
def HH(q:lo<=H.length)(k:sz<=9223372036854775807)(n:SlI H v l)(i:l.length<=9223372036854775807)(j:¬ (yh ch sz po r b/\inF sz l=true)):Ev cp lo 56 [cdI ch sz po r b,v,ve] H λv H'=>Ext H H'/\v=mO 1:=by
 have g:=n;obtain⟨w,c,rfl⟩:=n.len;unfold cdI;apply stG rfl rfl;unfold O6;simp[kB,aC];refine aA ?_;refine ay ?_;apply aB (Iw (ch:=ch) (sz:=sz) (po:=po) (r:=r) (b:=b) k);rintro v m ⟨a,t,rfl,s⟩;have x:m.get H.length=some _:=a.get aM;have f:m.get (H.length+1)=some _:=a.get aM;have a:=a.of_app;have o:=Heap.get_lt f;cases t with
 | false=>
  (try simp[aC]);refine aU (t:=false) aM dY eU (λh=>by cases h) λ_=>?_;(try simp[aC]);refine M1 ?_;refine aA ?_;refine aL ?_;exact⟨a.set byO,rfl⟩
 | true=>
  have e:inF sz l=false:=by rw[Bool.eq_false_iff];exact λh=>j ⟨s.1 rfl,h⟩
  (try simp[aC]);refine aU (t:=true) aM dY eU (λ_=>⟨_,aM,?_⟩) (λh=>by cases h);apply aB (wa (ch:=ch) (sz:=sz) (po:=po) (g.mono a) i);rintro v u ⟨d,rfl⟩;rw[e];have f:=d.get f;have d:=a.trans d;have p:=Heap.get_lt f;(try simp[aC]);refine M1 ?_;refine aA ?_;refine aL ?_;exact⟨d.set byO,rfl⟩
end
open XUa
def AX{q:Type}{enc:q->Value}(f:∀x,enc x≠.slice none 0 0){v:Value}{l:List q}{d:Nat}{x y:Value}(h:Sl enc H v l)(p:H.get d=some [.slice none 0 0,.slice none 0 0]):Sl enc (H.set d<|some [x,y]) v l:=by
 rcases h with h|⟨b,o,sp,g,xs,j,i,k,m,n⟩
 .exact .inl h
 .by_cases e:b=d
  .subst e
   have:xs=[.slice none 0 0,.slice none 0 0]:=Wx
   subst this;cases l with
   | nil=>exact .inr ⟨b,o,sp,g,_,j,aE<|Heap.get_lt i,Wc,by simpa using m,n⟩
   | cons a l=>
    have c:(([.slice none 0 0,.slice none 0 0]:XV).drop o)[0]?=some (enc a):=by
     grind
    grind
  .exact .inr ⟨b,o,sp,g,xs,j,by grind[aQ],k,m,n⟩
section
variable {f:FD}[OkC f]
def sA{lo:Nat}{g:El f}{v ve:Value}{w:List<|El f}{e:XI}{r b:Nat}(l0:lo<=H.length)(hg:Gn (OkC.ok (f:=f)) g)(U:CdOK f r b)(hw:SlE H v w)(q0:w.length<=10000000)(he:SlI H ve e)(c0:e.length<=10000000) :
  Ev cp lo 56 [cdV f r b,v,ve] H (λv H'=>Ext H H'/\(¬ inR w.length e->v=mO 1)/\(inR w.length e->¬ (r<w.length/\w.length<f.q)->v=mO 7)/\(inR w.length e->r<w.length->w.length<f.q->¬ DecOK g r b w (erI e)->v=mO 17)
   /\ (inR w.length e->r<w.length->w.length<f.q->DecOK g r b w (erI e)->RepOK g r b w (erI e) H.length v H')):=by
 have O:=qle (f:=f);have N:=hw;have G:=he;have W:=DI U;have V:=U;obtain⟨c1,c2,c3⟩:=U;obtain⟨aw,cw,rfl⟩:=hw.len;obtain⟨ae,ce,rfl⟩:=he.len;unfold cdV;apply stG rfl rfl;unfold O6;simp only[kB,aC];refine aA ?_;refine ay ?_;apply aB (Iw (ch:=FD.ch f) (sz:=f.q) (po:=f.poly) (r:=r) (b:=b) byO);rintro v Z ⟨m,t,rfl,ht⟩;have C:Z.get H.length=some _:=m.get aM;have n:Z.get (H.length+1)=some _:=m.get aM;have m:=m.of_app;have Y:t=true:=ht.2 W;subst Y;clear ht;have d:=zX w;(try simp only[aC]);refine aU (t:=true) aM dY eU (λ_=>⟨_,aM,?_⟩) (λh=>by cases h);apply aB (wa (ch:=FD.ch f) (sz:=f.q) (po:=f.poly) (sO<|N.mono m) (by rw[pg];omega));rintro v H2 ⟨j,rfl⟩;rw[d];clear d;have C:=j.get C;have n:=j.get n;have j:=m.trans j;have e0:=Heap.get_lt n;clear m;(try simp only[aC]);refine pt ?_;refine aA ?_;refine aP (λi S H'=>H2=H'/\inR w.length (e.take i)/\∃(z:Nat->Value),S=[z 0,.slice aw w.length cw,.slice ae e.length ce,.pointer<|some ⟨H.length,0,none⟩,.pointer<|some ⟨H.length+1,0,none⟩,z 5,.int .i64 i,z 7,z 8,z 9,z 10,z 11,z 12,z 13,z 14]) e.length ?_ ?_ ?_ ?_
 .exact⟨rfl,by simp[inR],aH rfl⟩
 .rintro i S H' D ⟨rfl,-,z,rfl⟩
  exact⟨_,aM,Wc⟩
 .rintro i S H' D ⟨rfl,d,z,rfl⟩
  obtain⟨xb,xo,s0,xc,xs,ee,gx,F,r0⟩:=(G.mono j).els 0 byO;cases ee;have a0:=F i D;have hm:e.getD i 0 ∈ e:=by rw[au₀,bc₀ D];exact List.getElem_mem D
  have X:e.take (i+1)=e.take i++[e.getD i 0]:=by rw[List.take_add_one,bc₀ D,au₀,bc₀ D];rfl
  clear F;generalize e.getD i 0=x at *;refine aA ?_;refine aK ?_ ?_<;>intro h
  .have p:¬ inR w.length e:=λh3=>by have:=h3 _ hm;simp at h;omega
   clear h;refine aA ?_;refine aL ?_;exact⟨j.set byO,λ_=>rfl,λh=>absurd h p,λh=>absurd h p,λh=>absurd h p⟩
  .have hx:0<=x/\x<w.length:=Ws
   clear h;refine aA ?_;refine⟨We,?_,aH ncM⟩;intro y hy;rw[X]at hy;rcases List.mem_append.1 hy with h|h
   .exact d y h
   .rw[List.mem_singleton.1 h];exact hx
 .rintro S H' ⟨rfl,d,z,rfl⟩
  rw[List.take_length]at d;by_cases a:r<w.length/\w.length<f.q
  case neg=>
   (try simp only[aC]);refine aK ?_ ?_<;>intro h
   case refine_2=>exfalso;simp at h;omega
   clear h;refine aA ?_;refine aL ?_;exact⟨j.set byO,λh=>absurd d h,λ_ _=>rfl,λ_ R O=>absurd ⟨R,O⟩ a,λ_ R O=>absurd ⟨R,O⟩ a⟩
  case pos=>
   (try simp only[aC]);refine aK ?_ ?_<;>intro h
   .exfalso;simp at h;omega
   clear h;refine bV ?_;refine aB (QK byO byO (G.mono j) byO d) ?_;rintro v H3 ⟨l,bm,b0,rfl,Q⟩;have C:=l.get C;have n:=l.get n;have l:=j.trans l;have h0:=Heap.get_lt n;have o0:=iK (erI e) w.length;by_cases s:sC (erI e) w.length<=r
   case neg=>
    have p:¬ DecOK g r b w (erI e):=λh=>s h.few;generalize sC (erI e) w.length=k at *;refine aA ?_;refine aK ?_ ?_<;>intro h
    case refine_2=>exfalso;simp at h;omega
    clear h;refine aA ?_;refine aL ?_;exact⟨l.set byO,λh=>absurd d h,λ_ h=>absurd a h,λ_ _ _ _=>rfl,λ_ _ _ h=>absurd h p⟩
   case pos=>
    refine aA ?_;refine aK ?_ ?_<;>intro h
    .exfalso;simp at h;omega
    clear h;refine bV ?_;refine aB (MA (f:=f) byO hg V (N.mono l) a.1 a.2 Q s) ?_;rintro v H4 ⟨q,A,B⟩;have n:=q.get n;have q:=l.trans q;have j0:=Heap.get_lt n;by_cases P:DecOK g r b w<|erI e
    .obtain⟨vw,vc,rfl,L,J,I⟩:=B P
     have M:=L;have K:=J;obtain⟨a1,k1,rfl⟩:=L.len;obtain⟨a2,k2,rfl⟩:=J.len;have u:=ki g r b w<|erI e;clear A B Q C;refine aA ?_;refine aL ?_;refine⟨q.set byO,λh=>absurd d h,λ_ h=>absurd a h,λ_ _ _ h=>absurd P h,λ_ _ _ _=>⟨_,_,rfl,?_,?_,?_⟩⟩
     .have:=AX (x:=.slice a1 (gO g r b w<|erI e).length k1) (y:=.slice a2 (sel (λi=>decide<|co (gO g r b w<|erI e) i≠co w i) w.length).length k2) (λx=>by unfold rf;simp) M n
      rw[u]at this;exact this
     .have:=AX (x:=.slice a1 (gO g r b w<|erI e).length k1) (y:=.slice a2 (sel (λi=>decide<|co (gO g r b w<|erI e) i≠co w i) w.length).length k2) (λx=>by unfold qE;simp) K n
      rw[u]at this;exact this
     .rw[u]at I
      exact λb o sp k c e=>Nat.le_trans l.1<|I b o sp k c e
    .rw[A P]
     clear A B Q C;unfold mO;refine aA ?_;refine aL ?_;exact⟨q.set byO,λh=>absurd d h,λ_ h=>absurd a h,λ_ _ _ _=>rfl,λ_ _ _ h=>absurd h P⟩
end
def Ff(H:Heap)(v:Value)(l m:XI)(k:Int):Prop:=∃vw vc,v=.tuple #[.agg #[vw,vc],.int .i64 k]/\SlI H vw l/\SlI H vc m
def ig(k:Int):Ff H (mO k) [] [] k:=⟨_,_,rfl,.inl ⟨rfl,rfl⟩,.inl ⟨rfl,rfl⟩⟩
def KI:((List.range 9).all λL=>nz cpO scS 1100 1000 0 33 [.i .i64 L] (.mk 0 .e)<|CG<|.tuple #[cdI 929 929 0 (2^(L+1):Nat) 1,.int .i64 0])=true:=Wf
def Ix:((List.range 9).all λL=>nz cpO scS 1100 1000 0 37 [.i .i64 L] (.mk 0 .e)<|CG<|cdI 929 929 0 (2^(L+1):Nat) 1)=true:=Wf
def SH{lo L:Nat}(a:lo<=H.length)(c:L<=8):Ev cpL lo 33 [.int .i64 L] H λr H'=>Ext H H'/\r=.tuple #[cdI 929 929 0 (2^(L+1):Nat) 1,.int .i64 0]:=by have⟨N,b⟩:=subO;have h:Ev cpO lo 33 [.int .i64 L] H λv H'=>Ext H H'/\v=_:=tR (args:=[.i .i64 L]) uT yV (List.all_eq_true.1 KI L<|List.mem_range.2 byO) rfl (by unfold cdI eq3;simp[eqL,eq2,eq1]) a;exact((h.subO b).sub wu).mono λv H' q=>⟨q.1,q.2⟩
def Qe{lo L:Nat}(a:lo<=H.length)(c:L<=8):Ev cpL lo 37 [.int .i64 L] H λr H'=>Ext H H'/\r=cdI 929 929 0 (2^(L+1):Nat) 1:=by have⟨N,b⟩:=subO;have h:Ev cpO lo 37 [.int .i64 L] H λv H'=>Ext H H'/\v=_:=tR (args:=[.i .i64 L]) uT yV (List.all_eq_true.1 Ix L<|List.mem_range.2 byO) rfl (by unfold cdI eq3;simp[eqL,eq2,eq1]) a;exact((h.subO b).sub wu).mono λv H' q=>⟨q.1,q.2⟩
def dfL(a l:XI):XI:=((List.range l.length).filter λi=>decide<|a.getD i 0≠l.getD i 0).map λi:Nat=>(i:Int)
def PV{f:FD}[OkC f]{a w:List<|El f}(h:a.length=w.length):(sel (λi=>decide<|co a i≠co w i) w.length).map (λi:Nat=>(i:Int))=dfL (lz a) (lz w):=by unfold dfL sel;rw[pg];grind[List.filter_congr,qq,lz,El.ext]
def HB{ch sz po r b:Int}{l e:XI}(K:po<=9223372036854775807)(D:sz<=9223372036854775807)(i:l.length<=10000000)(k:e.length<=10000000) :
  ∃l1 G A,(A=0/\l1.length=l.length/\G=dfL l1 l\/A≠0) /\
   (∀(lo:Nat) (H:Heap) (v m:Value),lo<=H.length->SlI H v l->SlI H m e->Ev cp lo 49 [cdI ch sz po r b,v,m] H λv H'=>Ext H H'/\Ff H' v l1 G A) /\
   ∀(lo:Nat) (H:Heap) (v m:Value),lo<=H.length->SlI H v l->SlI H m e->Ev cp lo 56 [cdI ch sz po r b,v,m] H λv H'=>Ext H H'/\Ff H' v l1 G A:=by
 by_cases o:yh ch sz po r b/\inF sz l=true
 .have⟨o,C⟩:=o
  obtain⟨f,_,g,r',y,s,q,rfl,rfl,rfl,rfl,rfl⟩:=Q4 o;obtain⟨w,rfl⟩:=TU C;rw[ay₀]at i;by_cases t:inR w.length e
  .by_cases p:r'<w.length/\w.length<f.q
   .by_cases z:DecOK g r' y w<|erI e
    .have x:(gO g r' y w<|erI e).length=w.length:=ki ..
     have u:=PV x;refine⟨lz<|gO g r' y w<|erI e,dfL (lz<|gO g r' y w<|erI e)<|lz w,0,.inl ⟨rfl,by rw[pg,x,ay₀],rfl⟩,λlo H v m c h j=>?_,λlo H v m c h j=>?_⟩
     .refine(rz c s q (kK h) i j k).mono ?_
      rintro v H' ⟨d,-,-,-,B⟩;have⟨J,I,F,a,b⟩:=B t p.1 p.2 z;exact⟨d,J,I,F,sO a,u▸zD b⟩
     .refine(sA c s q (kK h) i j k).mono ?_
      rintro v H' ⟨d,-,-,-,B⟩;obtain⟨J,I,F,a,b,-⟩:=B t p.1 p.2 z;exact⟨d,J,I,F,sO a,u▸zD b⟩
    .refine⟨[],[],17,.inr Wd,λlo H v m c h j=>?_,λlo H v m c h j=>?_⟩
     .refine(rz c s q (kK h) i j k).mono ?_
      rintro v H' ⟨d,-,-,n,-⟩;rw[n t p.1 p.2 z];exact⟨d,ig _⟩
     .refine(sA c s q (kK h) i j k).mono ?_
      rintro v H' ⟨d,-,-,n,-⟩;rw[n t p.1 p.2 z];exact⟨d,ig _⟩
   .refine⟨[],[],7,.inr Wd,λlo H v m c h j=>?_,λlo H v m c h j=>?_⟩
    .refine(rz c s q (kK h) i j k).mono ?_
     rintro v H' ⟨d,-,n,-,-⟩;rw[n t p];exact⟨d,ig _⟩
    .refine(sA c s q (kK h) i j k).mono ?_
     rintro v H' ⟨d,-,n,-,-⟩;rw[n t p];exact⟨d,ig _⟩
  .refine⟨[],[],1,.inr Wd,λlo H v m c h j=>?_,λlo H v m c h j=>?_⟩
   .refine(rz c s q (kK h) i j k).mono ?_
    rintro v H' ⟨d,n,-,-,-⟩;rw[n t];exact⟨d,ig _⟩
   .refine(sA c s q (kK h) i j k).mono ?_
    rintro v H' ⟨d,n,-,-,-⟩;rw[n t];exact⟨d,ig _⟩
 .refine⟨[],[],1,.inr Wd,λlo H v m c h j=>?_,λlo H v m c h j=>?_⟩
  .refine(HD c K h byO o).mono ?_
   rintro v H' ⟨d,rfl⟩;exact⟨d,ig _⟩
  .refine(HH c D h byO o).mono ?_
   rintro v H' ⟨d,rfl⟩;exact⟨d,ig _⟩
end
section
def vdM(w u:Int)(n:Nat):Bool:=decide<|1<=w/\w<=4096/\1<=u/\u<=4096/\w*u<=4194304/\(n:Int)=w*u
open XCSb
def L5{lo:Nat}{H:Heap}{k:Value}{dk:List Bool}{w u:Int}(i:SlB H k dk):Ev cp lo 43 [.agg #[.int .i64 w,.int .i64 u,k]] H λr H'=>Ext H H'/\r=.bool (vdM w u dk.length):=by
 obtain⟨c,e,rfl⟩:=i.len;generalize dk.length=n;apply stG rfl rfl;unfold Rc;simp[kB,aC];refine aF ?_;have f:=Ext.app H [some [.int .i64 w,.int .i64 u,.slice c n e]];have t:Heap.get (H++[some [.int .i64 w,.int .i64 u,.slice c n e]]) H.length=some [.int .i64 w,.int .i64 u,.slice c n e]:=aI;generalize H++[some [.int .i64 w,.int .i64 u,.slice c n e]]=G at *;by_cases g:1<=w/\w<=4096/\1<=u/\u<=4096;rotate_left
 .have b:vdM w u n=false:=decide_eq_false λh=>g ⟨h.1,h.2.1,h.2.2.1,h.2.2.2.1⟩
  rw[b];refine eD ?_ ?_<;>intro h;rotate_left
  .exfalso;simp at h;omega
  refine aF ?_;refine bD ?_;exact⟨f,rfl⟩
 have⟨l,o,p,q⟩:=g;obtain⟨W,rfl⟩:=Int.eq_ofNat_of_zero_le (show 0<=w by omega);obtain⟨U,rfl⟩:=Int.eq_ofNat_of_zero_le (show 0<=u by omega);have v:W*U<=4096*4096:=Nat.mul_le_mul byO byO;have j:vdM (W:Nat) (U:Nat) n=decide (((W*U:Nat):Int)<=4194304/\((n:Nat):Int)=((W*U:Nat):Int)):=by
  unfold vdM;rw[Int.natCast_mul,Bool.eq_iff_iff,decide_eq_true_iff,decide_eq_true_iff];exact⟨λh=>h.2.2.2.2,λh=>⟨l,o,p,q,h⟩⟩
 have s:((W:Nat):Int)*((U:Nat):Int)=((W*U:Nat):Int):=(Int.natCast_mul _ _).symm;rw[j];generalize W*U=m at *;refine eD ?_ ?_<;>intro h
 .exfalso;simp at h;omega
 by_cases a:((m:Nat):Int)<=4194304
 .have d:decide (((m:Nat):Int)<=4194304)=true:=decide_eq_true a
  rw[show decide (((m:Nat):Int)<=4194304/\((n:Nat):Int)=((m:Nat):Int))=decide (((n:Nat):Int)=((m:Nat):Int)) by simp[a]];refine aF ?_;refine bD ?_;exact⟨f,rfl⟩
 .have d:decide (((m:Nat):Int)<=4194304)=false:=decide_eq_false a
  rw[show decide (((m:Nat):Int)<=4194304/\((n:Nat):Int)=((m:Nat):Int))=false by simp[a]];refine aF ?_;refine bD ?_;exact⟨f,rfl⟩
def L3{lo:Nat}{H:Heap}{l:Value}{dk:List Bool}{w u:Int}(j:SlB H l dk):Ev cp lo 52 [.agg #[.int .i64 w,.int .i64 u,l]] H λr H'=>Ext H H'/\r=.bool (vdM w u dk.length):=by
 obtain⟨o,p,rfl⟩:=j.len;generalize dk.length=n;apply stG rfl rfl;unfold Rg;simp[kB,aC];have f:=Ext.app H [some [.int .i64 w,.int .i64 u,.slice o n p]];by_cases b:1<=w;rotate_left
 .have a:vdM w u n=false:=decide_eq_false λh=>b h.1
  have q:decide (w>=1)=false:=decide_eq_false byO;rw[a];refine aF ?_;refine bD ?_;exact⟨f,rfl⟩
 have q:decide (w>=1)=true:=decide_eq_true byO;by_cases c:w<=4096;rotate_left
 .have a:vdM w u n=false:=decide_eq_false λh=>c h.2.1
  have s:decide (w<=4096)=false:=decide_eq_false c;rw[a];refine aF ?_;refine bD ?_;exact⟨f,rfl⟩
 have s:decide (w<=4096)=true:=decide_eq_true c;by_cases g:1<=u;rotate_left
 .have a:vdM w u n=false:=decide_eq_false λh=>g h.2.2.1
  have t:decide (u>=1)=false:=decide_eq_false byO;rw[a];refine aF ?_;refine bD ?_;exact⟨f,rfl⟩
 have t:decide (u>=1)=true:=decide_eq_true byO;by_cases i:u<=4096;rotate_left
 .have a:vdM w u n=false:=decide_eq_false λh=>i h.2.2.2.1
  have v:decide (u<=4096)=false:=decide_eq_false i;rw[a];refine aF ?_;refine bD ?_;exact⟨f,rfl⟩
 have v:decide (u<=4096)=true:=decide_eq_true i;obtain⟨W,rfl⟩:=Int.eq_ofNat_of_zero_le (show 0<=w by omega);obtain⟨U,rfl⟩:=Int.eq_ofNat_of_zero_le (show 0<=u by omega);have y:W*U<=4096*4096:=Nat.mul_le_mul byO byO;have k:vdM (W:Nat) (U:Nat) n=decide (((W*U:Nat):Int)<=4194304/\((n:Nat):Int)=((W*U:Nat):Int)):=by
  unfold vdM;rw[Int.natCast_mul,Bool.eq_iff_iff,decide_eq_true_iff,decide_eq_true_iff];exact⟨λh=>h.2.2.2.2,λh=>⟨b,c,g,i,h⟩⟩
 have x:((W:Nat):Int)*((U:Nat):Int)=((W*U:Nat):Int):=(Int.natCast_mul _ _).symm;rw[k];generalize W*U=m at *;by_cases e:((m:Nat):Int)<=4194304
 .have d:decide (((m:Nat):Int)<=4194304)=true:=decide_eq_true e
  rw[show decide (((m:Nat):Int)<=4194304/\((n:Nat):Int)=((m:Nat):Int))=decide (((n:Nat):Int)=((m:Nat):Int)) by simp[e]];refine aF ?_;refine bD ?_;exact⟨f,rfl⟩
 .have d:decide (((m:Nat):Int)<=4194304)=false:=decide_eq_false e
  rw[show decide (((m:Nat):Int)<=4194304/\((n:Nat):Int)=((m:Nat):Int))=false by simp[e]];refine aF ?_;refine bD ?_;exact⟨f,rfl⟩
def eK(W U:Nat)(dk:List Bool):List<|List Bool:=(List.range U).map λy=>(dk.drop<|y*W).take W
def Gx(T par:Nat)(l1 m1:XI)(k1:Int)(ER:XI):Int×Int×XU:=
 if k1≠0 then(k1,0,[]) else
 if l1.getD 0 0<1\/((T-par:Nat):Int)<l1.getD 0 0 then(9,0,[]) else
 if (yw<|(l1.drop 1).take<|(l1.getD 0 0).toNat-1).2≠0 then(((yw<|(l1.drop 1).take<|(l1.getD 0 0).toNat-1).2:Nat),0,[])
 else(0,((ER.length+(m1.filter λx=>!ER.contains x).length:Nat):Int),(yw<|(l1.drop 1).take<|(l1.getD 0 0).toNat-1).1)
def lM(w u:Int)(dk:List Bool)(l1 m1:XI)(k1:Int):Int×Int×XU:=
 if vdM w u dk.length=false then(1,0,[]) else
 if w<86\/w.tmod 17≠1\/30<(w-69).tdiv 17 then(23,0,[]) else
 match shP (vts (eK w.toNat u.toNat dk) u.toNat) ((w-69).tdiv 17).toNat with
 | none=>(21,0,[])
 | some (R,L)=>Gx (R*((w-69).tdiv 17).toNat) (2^(L+1)) l1 m1 k1<|erF (eK w.toNat u.toNat dk) ((w-69).tdiv 17).toNat<|R*((w-69).tdiv 17).toNat
def No{W:Nat}:(∃c:Nat,1<=c/\c<=30/\W=17*c+69/\(((W:Nat):Int)-69).tdiv 17=(c:Nat)/\¬ (((W:Nat):Int)<86\/((W:Nat):Int).tmod 17≠1\/30<(((W:Nat):Int)-69).tdiv 17)) \/
  ((((W:Nat):Int)<86\/((W:Nat):Int).tmod 17≠1\/30<(((W:Nat):Int)-69).tdiv 17)/\((((W:Nat):Int)-69).tdiv 17<1\/30<(((W:Nat):Int)-69).tdiv 17\/((W:Nat):Int)≠17*(((W:Nat):Int)-69).tdiv 17+69)):=by
 by_cases h:W<69
 .omega
 .by_cases g:W=17*((W-69)/17)+69/\1<=(W-69)/17/\(W-69)/17<=30
  all_goals grind
def OP{W:Nat}(h:W<=4096):-5<=(((W:Nat):Int)-69).tdiv 17/\(((W:Nat):Int)-69).tdiv 17<=240:=by
 grind
def Ifs(c:XV):Prop:=∀x ∈ c,∀t:Bool,x≠.bool t
theorem LineV.setx{H:Heap}{v:Value}{l:List Bool}{d:Nat}{c c':XV}(h:LineV H v l)(g:H.get d=some c)(a:c'.length=c.length)(f:Ifs c):LineV (H.set d<|some c') v l:=by
 unfold LineV at *;split at h
 .exact h
 .have⟨mv,b,e⟩:=h
  exact⟨mv,b,D3 e g a f⟩
theorem LineV.ifs{H:Heap}{v:Value}{l:List Bool}(h:LineV H v l):∀t:Bool,v≠.bool t:=by
 grind[LineV]
def LnK(H:Heap)(b:Nat)(rows:List<|List Bool)(k:Nat):Prop:=∃cs:XV,cs.length=rows.length/\H.get b=some cs/\Ifs cs/\∀i,i<k->LineV H (cs.getD i undef) (rows.getD i [])
theorem LnK.put{H K:Heap}{b k:Nat}{rows:List<|List Bool}{v:Value}(h:LnK H b rows k)(e:Ext H K)(o:k<rows.length)(j:LineV K v<|rows.getD k []):∃a:XV,K.get b=some a/\a.length=rows.length/\LnK (K.set b<|some<|a.set k v) b rows (k+1):=by
 have⟨a,g,l,d,m⟩:=h;have c:=e.get l;refine⟨a,c,g,a.set k v,by rw[List.length_set];exact g,aE<|Heap.get_lt c,?_,?_⟩
 .intro x f
  rcases List.mem_or_eq_of_mem_set f with f|rfl
  .exact d x f
  .exact j.ifs
 .intro i n
  by_cases q:i=k
  .subst q
   rw[au₀,List.getElem?_set_self byO];exact j.setx c Wc d
  .rw[au₀,List.getElem?_set_ne λz=>q z.symm,<-au₀]
   exact((m i byO).mono e).setx c Wc d
theorem LnK.all{H:Heap}{b:Nat}{rows:List<|List Bool}(h:LnK H b rows rows.length):LinesV H (.slice (some ⟨b,0,none⟩) rows.length rows.length) rows:=by have⟨a,c,d,f,e⟩:=h;refine⟨a,.inr ⟨b,0,none,rows.length,a,by rw[c],d,?_,byO,.inl rfl,byO⟩,c,e⟩;simp
def q8(W U:Nat)(dk:List Bool):(eK W U dk).length=U:=by simp[eK]
theorem ub{W U y:Nat}{dk:List Bool}(h:y<U):(eK W U dk).getD y []=(dk.drop<|y*W).take W:=by simp[eK,au₀,h]
def q9{W U y:Nat}{dk:List Bool}(a:dk.length=W*U)(h:y<U):((eK W U dk).getD y []).length=W:=by rw[ub h,List.length_take,List.length_drop,a];have:=Nat.mul_le_mul_left W (show y+1<=U by omega);grind
end
section
def Di(a b c d e:Value):(Value.agg #[a,b,c,d,e]).cells=#[a,b,c,d,e]:=rfl
def Kc{lo b o:Nat}{t:TypeId}{x:Value}{H:Heap}(h:lo<=b):bh lo (.st 1) [.pointer<|some ⟨b,o,none⟩,.iface t x] H=(match H.get b with|some c=>(if o<c.length then some (undef,H.set b<|some<|c.set o<|.iface t x) else none)|none=>none):=qN h rfl rfl
theorem LineV.iface{H:Heap}{v:Value}{l:List Bool}(h:LineV H v l):∃t x,v=.iface t x:=by
 grind[LineV]
def QU(n:Nat):Ifs<|List.replicate n .nilIface:=by intro x a t q;rw[List.eq_of_mem_replicate a]at q;cases q
theorem LinesV.mono{H H':Heap}{v:Value}{rows:List<|List Bool}(h:LinesV H v rows)(e:Ext H H'):LinesV H' v rows:=by have⟨L,a,b,c⟩:=h;exact⟨L,a.mono e,b,λi d=>(c i d).mono e⟩
def ON{V:(Nat->Nat)×(Nat->Nat)}{cols R L:Nat}(h:shP V cols=some (R,L)):3<=R/\R<=90/\L<=8/\2^(L+1)<R*cols/\R*cols<=928:=by
 grind[rW,shP]
def Az(rows:List<|List Bool)(cols n:Nat):(erF rows cols n).Pairwise (·<=·):=by unfold erF;rw[List.pairwise_map];exact((List.pairwise_lt_range.imp λh=>by omega).filter _)
def cnF(E m:XI)(k:Nat):Nat:=E.length+((m.take k).filter λx=>!E.contains x).length
def Om(E m:XI)(k:Nat):cnF E m k<=E.length+k:=by grind[cnF]
def Ga(E m:XI):cnF E m 0=E.length:=rfl
def KD(E m:XI):cnF E m m.length=E.length+(m.filter λx=>!E.contains x).length:=by unfold cnF;rw[List.take_length]
def G9{E m:XI}{k:Nat}(h:k<m.length):cnF E m (k+1)=cnF E m k+if E.contains (m.getD k 0) then 0 else 1:=by
 grind[cnF,List.take_add_one]
section
variable {lo:Nat}{H:Heap}{vd:Value}{dk:List Bool}{w u k1:Int}{l1 m1:XI}
namespace XVr
def xtr:=zzi @Int.cast_ofNat_Int<|zzi @ite_self.{1} (zzi @sP<|zzi @Di @Kc)
end XVr
open XVr
def Nq(hd:SlB H vd dk)(B:lo<=H.length)(ht:H.get 0=some jG)(X0:k1=0->m1.length<=1000000000)
  (hR:∀R L:Nat,shP (vts (eK w.toNat u.toNat dk) u.toNat) ((w-69).tdiv 17).toNat=some (R,L)->(k1=0->l1.length=R*((w-69).tdiv 17).toNat)/\∀(H:Heap) (v ve:Value),lo<=H.length->SlI H v ((List.range<|R*((w-69).tdiv 17).toNat).map<|wdF (eK w.toNat u.toNat dk) ((w-69).tdiv 17).toNat<|R*((w-69).tdiv 17).toNat)->SlI H ve (erF (eK w.toNat u.toNat dk) ((w-69).tdiv 17).toNat<|R*((w-69).tdiv 17).toNat)->Ev cp lo 49 [cdI 929 929 0 (2^(L+1):Nat) 1,v,ve] H λv H'=>Ext H H'/\Ff H' v l1 m1 k1) :
  Ev cpL lo 20 [.agg #[.int .i64 w,.int .i64 u,vd]] H λr H'=>Ext H H'/\∃v,r=.tuple #[v,.int .i64 (lM w u dk l1 m1 k1).2.1,.int .i64 (lM w u dk l1 m1 k1).1]/\Sl bT H' v (lM w u dk l1 m1 k1).2.2:=by
 have z1:=hd;obtain⟨ad,c0,rfl⟩:=hd.len;have g1:=λ(K:Heap) (hx:Ext H K)=>(L5 (lo:=lo) (z1.mono hx) (w:=w) (u:=u)).sub jQ;obtain⟨D,d⟩:∃D,lM w u dk l1 m1 k1=D:=⟨_,rfl⟩;rw[d];replace d:=Wa d;replace g1:=Wa g1;replace hR:=Wa hR;replace X0:=Wa X0;clear hd;refine stG rfl rfl ?_;unfold R5;simp only[kB,aC];refine aF ?_;have G1:=Ext.app H [some [.int .i64 w,.int .i64 u,.slice ad dk.length c0]];have gm:Heap.get (H++[some [.int .i64 w,.int .i64 u,.slice ad dk.length c0]]) H.length=some [.int .i64 w,.int .i64 u,.slice ad dk.length c0]:=aI;generalize H++[some [.int .i64 w,.int .i64 u,.slice ad dk.length c0]]=G at *;refine fC ?_;refine aB (Wb g1 _ G1) ?_;rintro r K ⟨l,rfl⟩;have gm:=l.get gm;have l:=G1.trans l;clear g1 G1;cases hv:vdM w u dk.length with
 | false=>
  have d:=Wb d;unfold lM at d;rw[if_pos hv]at d;subst d;(try simp only[aC]);refine dw ?_;refine aF ?_;refine bD ?_;exact⟨l,_,rfl,.inl ⟨rfl,rfl⟩⟩
 | true=>
 have d:=Wb d;unfold lM at d;rw[if_neg (by rw[hv];decide)]at d;obtain⟨h1,h2,h3,h4,h5,h6⟩:=of_decide_eq_true hv;clear hv;obtain⟨W,rfl⟩:=Int.eq_ofNat_of_zero_le (show 0<=w by omega);obtain⟨U,rfl⟩:=Int.eq_ofNat_of_zero_le (show 0<=u by omega);have o0:dk.length=W*U:=by rw[<-Int.natCast_mul]at h6;omega
 have M2:W*U<=4194304:=by rw[<-Int.natCast_mul]at h5;omega
 clear h5 h6;simp only[Int.toNat_natCast]at d hR;obtain⟨q1,q2⟩:=OP (W:=W) byO;have k2:=No (W:=W);generalize hq:(((W:Nat):Int)-69).tdiv 17=q at *;replace d:=Wa d;(try simp only[aC]);refine fO ?_;rcases k2 with ⟨c,c1,c2,c3,rfl,c4⟩|⟨cb,Y1⟩;rotate_left
 .have d:=Wb d
  rw[if_pos cb]at d;subst d;clear cb hR;refine aF ?_;refine eD ?_ ?_<;>intro h;rotate_left
  .exfalso;simp at h;omega
  clear h Y1;refine aF ?_;refine bD ?_;exact⟨l,_,rfl,.inl ⟨rfl,rfl⟩⟩
 replace c3:False\/W=17*c+69:=.inr c3;have d:=Wb d;rw[if_neg c4]at d;simp only[Int.toNat_natCast]at d hR;clear c4;replace d:=Wa d;refine aF ?_;refine eD ?_ ?_<;>intro h
 .have c3:=Wb c3;exfalso;simp at h;omega
 clear h hq;have J:=q8 W U dk;have Y0:=λy (h:y<U)=>ub (W:=W) (dk:=dk) h;have r0:=λy (h:y<U)=>q9 o0 h;generalize eK W U dk=rows at *;have A:=l.1;refine iU ?_;refine aB ((Bv byO).sub TQ) ?_;rintro r K2 ⟨rfl,rfl⟩;have m:=Ext.app K [some tabV];have I:Heap.get (K++[some tabV]) K.length=some tabV:=aI;have gm:=m.get gm;have m:=l.trans m;generalize K++[some tabV]=K2 at *;generalize K.length=bt at *;clear l;have A1:=m.1;refine aF ?_;refine fC ?_;refine aB (Ln byO) ?_;rintro vs K3 ⟨o,N⟩;have gm:=o.get gm;have I:=o.get I;have o:=m.trans o;have p2:=o.1;clear m;refine aF ?_;refine fC ?_;refine aB (Qc byO) ?_;rintro ve K4 ⟨f,e⟩;have gm:=f.get gm;have I:=f.get I;have N:=N.mono f;have f:=o.trans f;have B1:=f.1;clear o;refine aF ?_;rw[show bK [Value.nilIface] U=List.replicate U .nilIface by simp[bK]];have gl:LnK (K4++[some<|List.replicate U Value.nilIface]) K4.length rows 0:=⟨_,by simp[J],aI,QU _,λi hi=>absurd hi<|Nat.not_lt_zero _⟩;have o1:=Ext.app K4 [some<|List.replicate U Value.nilIface];have T0:K4.length<(K4++[some<|List.replicate U Value.nilIface]).length:=Wc
 have b2:=o1.get gm;have K1:=z1.mono f;replace Y0:=Wa Y0;replace r0:=Wa r0;generalize K4++[some<|List.replicate U Value.nilIface]=G5 at *;obtain⟨b5,l0⟩:∃b5,K4.length=b5:=⟨_,rfl⟩;rw[l0]at gl T0 B1 ⊢;replace l0:=Nat.le_of_eq l0;have T1:=Nat.le_trans B B1;refine aF ?_;clear b2;refine aP (λk S H'=>Ext K4 H'/\b5<H'.length/\LnK H' b5 rows k/\∃(z:Nat->Value),S=[z 0,.pointer<|some ⟨H.length,0,none⟩,z 2,z 3,z 4,.int .i64 c,.pointer<|some ⟨bt,0,none⟩,vs,ve,.slice (some ⟨b5,0,none⟩) U U,z 10,z 11,z 12,z 13,z 14,z 15,z 16,z 17,z 18,z 19,z 20,z 21,z 22,z 23,z 24,z 25,z 26,z 27,.int .i64 U,.int .i64 k,z 30,z 31,z 32,z 33,z 34,z 35,z 36,z 37,z 38,z 39,z 40,z 41,z 42,z 43,z 44,z 45,z 46,z 47,z 48,z 49]) U ?_ ?_ ?_ ?_
 .exact⟨o1,T0,gl,aH rfl⟩
 .rintro k S H' j ⟨-,-,-,z,rfl⟩
  exact⟨_,bR,Wc⟩
 .clear d hR o1 T0 gl
  rintro k S H1 j ⟨hx,hl,hL,z,rfl⟩;have gm:=hx.get gm;have I:=hx.get I;have N:=N.mono hx;have e:=e.mono hx;have L1:(k+1)*W<=W*U:=by rw[bb₀ W U];exact Nat.mul_le_mul_right W j
  have e1:((k:Nat):Int)*((W:Nat):Int)=((k*W:Nat):Int):=(Int.natCast_mul _ _).symm;have e2:(((k:Nat):Int)+1)*((W:Nat):Int)=((k*W+W:Nat):Int):=by rw[show((k:Nat):Int)+1=((k+1:Nat):Int) by omega,<-Int.natCast_mul,Nat.add_mul,Nat.one_mul]
  rw[Nat.add_mul,Nat.one_mul]at L1;obtain⟨sv,b1,C⟩:=eO (K1.mono hx) (a:=k*W) (b:=k*W+W) rfl rfl byO (by rw[o0];exact L1);rw[Nat.add_sub_cancel_left,<-Wb Y0 k j]at C;rw[o0]at b1;have S1:=Wb r0 k j;have m2:k<rows.length:=byO;generalize o2:k*W=kw at *;have Q2:∀n:Nat,kw+W<=n->kw<=n:=λn h=>by omega
  have c3:=Wb c3;have Z0:=TH (lo:=lo) byO I C N e (by rw[S1];omega) (by rw[S1];omega);replace c3:=Wa c3;replace Z0:=Wa Z0;clear o2;refine aF ?_;refine fC ?_;refine aB (Wb Z0) ?_;rintro r H2 ⟨b0,hr⟩;obtain⟨ti,xi,rfl⟩:=hr.iface;obtain⟨cs,g5,N2,g2⟩:=hL.put b0 m2 hr;clear hr Z0 b1 C hL gm I N e e1 e2 o f;have m:=hx.trans b0;have A1:=bd₀ hl b0.1;clear b0 hx hl;refine aF ?_;exact⟨m.set l0,by simpa using A1,g2,aH ncM⟩
 clear gl o1 T0;rintro S H1 ⟨hx,hl,hL,z,rfl⟩;have f:=f.trans hx;have I:=hx.get I;rw[<-J]at hL;have hV:=hL.all;rw[J]at hV;have p1:lo<=H1.length:=Nat.le_trans B f.1;have s0:=Qy (cols:=c) p1 hV (by rw[J];omega) c2;rw[J]at s0;have hw:∀i,i<U->(rows.getD i []).length=17*c+69:=λi hi=>by rw[Wb r0 i hi];exact Wb c3
 replace hw:=Wa hw;replace s0:=Wa s0;clear Y0 r0 K1 z1 N e hx hL hl gm l m o c3 A A1 p2;clear l0 B1 T1;refine iU ?_;refine aB (Wb s0) ?_;rintro r K6 ⟨F,rfl⟩;have hV:=hV.mono F;have I:=F.get I;have F:=f.trans F;have u1:lo<=K6.length:=Nat.le_trans B F.1;clear f s0 p1;cases hs:shP (vts rows U) c with
 | none=>
  rw[hs]at d;have d:=Wb d;simp only at d;subst d;simp only[shV];clear hR hV I;refine aF ?_;refine dw ?_;refine aF ?_;refine bD ?_;exact⟨F,_,rfl,.inl ⟨rfl,rfl⟩⟩
 | some p=>
 obtain⟨R,L⟩:=p;rw[hs]at d;have d:=Wb d;simp only at d;obtain⟨r1,r2,r3,r4,r5⟩:=ON hs;obtain⟨A,hR⟩:=Wb hR R L hs;have a0:=Gf (R:=R) u1 I hV (by rw[J];omega) r2 c1 c2 (by rw[J];exact Wb hw);have x0:=Az rows c<|R*c;have F2:=pF rows c<|R*c;have u2:=Nat.pow_le_pow_right (show 0<2 by decide) (show L+1<=9 by omega);rw[show 2^9=512 from rfl]at u2;have eT:((R:Nat):Int)*((c:Nat):Int)=((R*c:Nat):Int):=(Int.natCast_mul _ _).symm;have H0:=λ(K:Heap) (h:lo<=K.length)=>SH (lo:=lo) (H:=K) (L:=L) h r3;have q0:=λ(K:Heap)=>(DK (lo:=lo) (H:=K) r3).sub jQ;clear hs;generalize erF rows c (R*c)=ER at *;generalize (List.range<|R*c).map (wdF rows c<|R*c)=WL at *;generalize R*c=T at *;generalize 2^(L+1)=P at *;replace d:=Wa d;replace hR:=Wa hR;replace a0:=Wa a0;replace H0:=Wa H0;replace q0:=Wa q0;replace x0:=Wa x0;replace A:=Wa A;simp only[shV];clear hw;refine aF ?_;refine fO ?_;refine iU ?_;refine aB (Wb a0) ?_;rintro r K7 ⟨w0,vw,ve,rfl,e0,e⟩;have w0:=F.trans w0;have x1:lo<=K7.length:=Nat.le_trans B w0.1;clear F hV I a0;refine aF ?_;refine fC ?_;refine aB (Wb H0 _ x1) ?_;rintro r K8 ⟨O,rfl⟩;have e0:=e0.mono O;have e:=e.mono O;have O:=w0.trans O;have y2:lo<=K8.length:=Nat.le_trans B O.1;clear w0 H0;unfold cdI;refine aF ?_;have V:=Ext.app K8 [some [.int .i64 929,.int .i64 929,.int .i64 0,.int .i64 P,.int .i64 1]];have Z1:Heap.get (K8++[some [.int .i64 929,.int .i64 929,.int .i64 0,.int .i64 P,.int .i64 1]]) K8.length=some [.int .i64 929,.int .i64 929,.int .i64 0,.int .i64 P,.int .i64 1]:=aI;have e0:=e0.mono V;have e:=e.mono V;have V:=O.trans V;generalize K8++[some [.int .i64 929,.int .i64 929,.int .i64 0,.int .i64 P,.int .i64 1]]=KA at *;generalize K8.length=B2 at *;have y1:lo<=KA.length:=Nat.le_trans B V.1;clear O x1 u1;have y0:=(Wb hR KA vw ve y1 e0 e).sub jQ;clear hR e0;replace y0:=Wa y0;refine fO ?_;refine iU ?_;refine aB (Wb y0) ?_;rintro r KB ⟨g0,w1,w2,rfl,j1,F1⟩;clear y0;have e:=e.mono g0;have g0:=V.trans g0;have z2:lo<=KB.length:=Nat.le_trans B g0.1;clear V y1 Z1;have el:=λk (j:k<l1.length)=>j1.els 0 byO;have s:=λk (j:k<m1.length)=>F1.els 0 byO;have g:=λ(b:Nat) (h1:1<=b) (h2:b<=l1.length)=>eO j1 (a:=1) (b:=b) (x:=1) (y:=b) rfl rfl h1 h2;obtain⟨a1,n1,rfl⟩:=j1.len;obtain⟨a2,n2,rfl⟩:=F1.len;replace el:=Wa el;replace s:=Wa s;replace g:=Wa g;clear j1 F1;refine aF ?_;have h0:=Ext.app KB [some [.slice a1 l1.length n1,.slice a2 m1.length n2]];have t:Heap.get (KB++[some [.slice a1 l1.length n1,.slice a2 m1.length n2]]) KB.length=some [.slice a1 l1.length n1,.slice a2 m1.length n2]:=aI;have e:=e.mono h0;have X:=g0.trans h0;generalize KB++[some [.slice a1 l1.length n1,.slice a2 m1.length n2]]=KC at *;generalize KB.length=C2 at *;have W1:lo<=KC.length:=Nat.le_trans B X.1;refine eD ?_ ?_<;>intro h
 .have j:k1≠0:=Wy
  have d:=Wb d;unfold Gx at d;rw[if_pos j]at d;subst d;clear h j el s g t e A;refine aF ?_;refine bD ?_;exact⟨X,_,rfl,.inl ⟨rfl,rfl⟩⟩
 have j:k1=0:=Wy
 have d:=Wb d;unfold Gx at d;rw[if_neg λq=>q j]at d;have A:=Wb A j;have X0:=Wb X0 j;clear h j;obtain⟨xb,xo,X2,xc,xs,e1,gx,fx,lx⟩:=Wb el 0 byO;cases e1;have f0:=fx 0 byO;rw[Nat.add_zero]at f0;have L2:0<T:=byO;have gx:=h0.get gx;rw[A]at g t lx ⊢;clear el fx;generalize l1.getD 0 0=y at *;replace d:=Wa d;by_cases j0:y<1
 .have d1:decide (y<1)=true:=decide_eq_true j0
  have d:=Wb d;rw[if_pos<|.inl j0]at d;subst d;clear g s e q0;refine aF ?_;refine aU bR lD bR (λh=>by simp[j0]at h) λh=>?_;clear h j0 gx t;(try simp only[aC]);refine dw ?_;refine aF ?_;refine bD ?_;exact⟨X,_,rfl,.inl ⟨rfl,rfl⟩⟩
 obtain⟨Y,rfl⟩:=Int.eq_ofNat_of_zero_le (show 0<=y by omega);have j2:1<=Y:=byO;have d1:decide (((Y:Nat):Int)<1)=false:=decide_eq_false j0;clear j0;refine aF ?_;refine aU bR lD bR (λh=>⟨_,bR,?_⟩) (λh=>by simp at h);clear h;refine aB (Wb q0 _) ?_;rintro r KE ⟨rfl,rfl⟩;clear q0;have e5:((T:Nat):Int)-((P:Nat):Int)=((T-P:Nat):Int):=byO;(try simp only[aC]);refine eD ?_ ?_<;>intro h
 .have hY:T-P<Y:=Ws
  have d:=Wb d;rw[if_pos<|.inr byO]at d;subst d;clear g s e h gx t;refine aF ?_;refine bD ?_;exact⟨X,_,rfl,.inl ⟨rfl,rfl⟩⟩
 have hY:Y<=T-P:=Ws
 have d:=Wb d;rw[if_neg byO]at d;rw[Int.toNat_natCast]at d;clear h e5 gx f0;obtain⟨sv,b1,C⟩:=Wb g Y j2 byO;have C:=C.mono h0;generalize (l1.drop 1).take (Y-1)=M at *;have S0:=(KN W1 C<|X.get ht).sub TS;clear g C;generalize yw M=Q at *;obtain⟨pl,er⟩:=Q;replace S0:=Wa S0;replace d:=Wa d;refine iU ?_;refine aB (Wb S0) ?_;rintro r KF ⟨Z,v,rfl,X1⟩;clear S0 b1;have e:=e.mono Z;have t:=Z.get t;have x2:=h0.trans Z;have Z:=X.trans Z;clear X h0 g0;refine aF ?_;refine eD ?_ ?_<;>intro h
 .have he:er≠0:=Ws
  have d:=Wb d;rw[if_pos he]at d;subst d;clear h he s e t;refine aF ?_;refine bD ?_;exact⟨Z,_,rfl,.inl ⟨rfl,rfl⟩⟩
 have he:er=0:=Ws
 have d:=Wb d;rw[if_neg λq=>q he]at d;clear h he;have G2:ER.length<=1000:=byO;have z0:=λ(x:Int)=>SE (lo:=lo) (x:=x) e (Wb x0) byO;obtain⟨a3,n3,rfl⟩:=e.len;have c0:=Ga ER m1;have cS:=λk=>@G9 ER m1 k;have cL:=Om ER m1;have cA:=KD ER m1;replace z0:=Wa z0;replace cS:=Wa cS;replace cL:=Wa cL;replace cA:=Wa cA;replace d:=Wa d;clear e x0;refine aF ?_;refine aP (λk S H'=>KF=H'/\∃(z:Nat->Value),S=[z 0,z 1,z 2,z 3,z 4,z 5,z 6,z 7,z 8,z 9,z 10,z 11,z 12,z 13,z 14,.slice a3 ER.length n3,z 16,z 17,z 18,v,.int .i64 (cnF ER m1 k),z 21,z 22,z 23,z 24,z 25,z 26,z 27,z 28,z 29,z 30,z 31,z 32,z 33,z 34,z 35,z 36,z 37,z 38,z 39,z 40,z 41,z 42,z 43,z 44,z 45,.slice a2 m1.length n2,.int .i64 m1.length,.int .i64 k,z 49]) m1.length ?_ ?_ ?_ ?_
 .exact⟨rfl,aH (by rw[c0];rfl)⟩
 .rintro k S H' j ⟨rfl,z,rfl⟩
  exact⟨_,bR,Wc⟩
 .clear c0 cA d X1 t
  rintro k S H' j ⟨rfl,z,rfl⟩;obtain⟨S2,V2,A2,T2,W2,e1,gx,fx,lx⟩:=Wb s k j;cases e1;have fk:=fx k j;have gx:=x2.get gx;have cs:=Wb cS k j;have cl:=Wb cL k;have hb:=Wb z0<|m1.getD k 0;clear fx cS cL z0 s;rw[cs];generalize cnF ER m1 k=n at *;generalize m1.getD k 0=x at *;clear cs;replace hb:=Wa hb;refine aF ?_;refine fC ?_;refine aB (Wb hb) ?_;rintro r K' ⟨rfl,rfl⟩;clear hb;refine aF ?_;cases ER.contains x with
  | false=>
   refine dw ?_;refine aF ?_;exact⟨We,aH ncM⟩
  | true=>
   refine fO ?_;refine aF ?_;exact⟨We,aH ncM⟩
 rintro S H' ⟨rfl,z,rfl⟩;have d:=Wb d;rw[<-Wb cA]at d;subst d;refine aF ?_;refine bD ?_;exact⟨Z,_,rfl,X1⟩
end
variable {lo:Nat}{H:Heap}
namespace XVs
def xtr:=zzi @Int.cast_ofNat_Int<|zzi @ite_self.{1} @ff
end XVs
open XVs
def MX{v:Value}{e:XI}{x:Int}(l:SlI H v e)(t:e.length<=1000000000):Ev cp lo 57 [v,.int .i64 x] H λr H'=>H'=H/\r=.bool (e.contains x):=by
 have g:=λk (b:k<e.length)=>l.els 0 byO;obtain⟨n,o,rfl⟩:=l.len;have c:∀k,k<e.length->e.getD k 0=x->e.contains x=true:=λk b h=>by
  rw[List.contains_iff_mem,<-h,au₀,bc₀ b];exact List.getElem_mem _
 have a:(∀k,k<e.length->e.getD k 0≠x)->e.contains x=false:=λh=>by
  rw[Bool.eq_false_iff];intro q;obtain⟨k,b,rfl⟩:=List.getElem_of_mem<|List.contains_iff_mem.1 q;exact h k b (by rw[au₀,bc₀ b];rfl)
 replace g:=Wa g;replace c:=Wa c;replace a:=Wa a;generalize s:e.length=N at *;apply stG rfl rfl;unfold Rk;simp only[kB,aC];refine aF ?_;apply aP (λk S H'=>H=H'/\(∀j,j<k->e.getD j 0≠x)/\∃(z:Nat->Value),S=[.slice n N o,.int .i64 x,z 2,.int .i64 k]) N
 .exact⟨rfl,λj u=>byO,aH rfl⟩
 .rintro k S H' b ⟨rfl,f,z,rfl⟩
  exact⟨_,bR,Wc⟩
 .rintro k S H' b ⟨rfl,f,z,rfl⟩
  have⟨C,F,w,D,xs,p,A,m,B⟩:=Wb g k b;cases p;have y:=m k b;by_cases h:e.getD k 0=x
  .rw[Wb c k b h]
   have d:decide (e.getD k 0=x)=true:=decide_eq_true h;refine dw ?_;refine aF ?_;refine bD ?_;exact⟨rfl,rfl⟩
  .have d:decide (e.getD k 0=x)=false:=decide_eq_false h
   have i:False\/∀j,j<k+1->e.getD j 0≠x:=.inr λj u=>by
    by_cases q:j=k
    .rw[q];exact h
    .exact f j byO
   refine fO ?_;refine aF ?_;exact⟨We,Wb i,aH ncM⟩
 rintro S H' ⟨rfl,f,z,rfl⟩;rw[Wb a f];refine aF ?_;refine bD ?_;exact⟨rfl,rfl⟩
def msN(a:Nat->Nat):Nat->Int
 | 0=>-1
 | k+1=>if 0<a k/\(msN a k<0\/a (msN a k).toNat<a k) then(k:Nat) else msN a k
theorem Ia(a:Nat->Nat):∀k,msN a (k+1)=if 0<a (wn a<|k+1) then((wn a (k+1):Nat):Int) else -1
 | 0=>by
  show(if 0<a 0/\_ then _ else _)=_;have e:wn a 1=0:=by show(if _ then _ else _)=0;split<;>rfl
  rw[e];by_cases h:0<a 0
  .rw[if_pos ⟨h,.inl (by show(-1:Int)<0;decide)⟩,if_pos h]
  .rw[if_neg λq=>h q.1,if_neg h];rfl
 | k+1=>by
  have d:=Ia a k;grind[msN,wn]
def OA(a:Nat->Nat):∀k,k<=30->-1<=msN a k/\msN a k<30
 | 0,_=>⟨Int.le_refl _,by show(-1:Int)<30;decide⟩
 | k+1,h=>by
  have:=OA a k byO;show -1<=(if _ then _ else _)/\(if _ then _ else _)<_;grind
def Nz{a:Nat->Nat}(u:lo<=H.length)(A:∀j,a j<=100000):Ev cp lo 54 [.agg ⟨vC a⟩] H λr H'=>Ext H H'/\r=.int .i64 (if 0<a (wn a 30) then((wn a 30:Nat):Int) else -1):=by
 have b:=λi (h:i<30)=>Ac (a:=a) h;have o:=ff a;have c:=OA a;rw[<-Ia a 29];have e:∀k,msN a (k+1)=if 0<a k/\(msN a k<0\/a (msN a k).toNat<a k) then((k:Nat):Int) else msN a k:=λk=>rfl
 have t:(Value.agg ⟨vC a⟩).cells=⟨vC a⟩:=rfl;generalize vC a=C at *;replace b:=Wa b;replace c:=Wa c;replace e:=Wa e;apply stG rfl rfl;unfold Ri;simp[kB,aC];refine aF ?_;have v:=Ext.push H<|some C;have x:Heap.get (H++[some C]) H.length=some C:=aX _ _;generalize H++[some C]=G at *;apply aP (λk S H'=>G=H'/\∃(z:Nat->Value),S=[z 0,.pointer<|some ⟨H.length,0,none⟩,z 2,.int .i64<|msN a k,.int .i64 k]) 30
 .exact⟨rfl,aH rfl⟩
 .rintro k S H' n ⟨rfl,z,rfl⟩
  exact⟨_,bR,Wr⟩
 .rintro k S H' n ⟨rfl,z,rfl⟩
  have w:=Wb b k n;have⟨B,D⟩:=Wb c k byO;rw[Wb e k];have g:=λ(h:0<=msN a k)=>Wb b (msN a k).toNat byO;generalize msN a k=m at *;by_cases d:0<a k
  .have p:decide (((a k:Nat):Int)>0)=true:=decide_eq_true byO
   by_cases f:m<0
   .have q:decide (m<0)=true:=decide_eq_true f
    rw[if_pos ⟨d,.inl f⟩];refine dw ?_;refine aF ?_;exact⟨We,aH ncM⟩
   .have q:decide (m<0)=false:=decide_eq_false f
    obtain⟨y,rfl⟩:=Int.eq_ofNat_of_zero_le (show 0<=m by omega);have g:=g byO;rw[Int.toNat_natCast]at g;by_cases l:a y<a k
    .rw[if_pos ⟨d,.inr (by rw[Int.toNat_natCast];exact l)⟩]
     have s:decide (((a k:Nat):Int)>((a y:Nat):Int))=true:=decide_eq_true byO;refine dw ?_;refine aF ?_;exact⟨We,aH ncM⟩
    .rw[if_neg (by rw[Int.toNat_natCast];omega)]
     have s:decide (((a k:Nat):Int)>((a y:Nat):Int))=false:=decide_eq_false byO;refine fO ?_;refine aF ?_;exact⟨We,aH ncM⟩
  .have p:decide (((a k:Nat):Int)>0)=false:=decide_eq_false byO
   rw[if_neg λh=>d h.1];refine fO ?_;refine aF ?_;exact⟨We,aH ncM⟩
 rintro S H' ⟨rfl,z,rfl⟩;refine aF ?_;refine bD ?_;exact⟨v,rfl⟩
end
variable{i:Nat}
variable {lo:Nat}{H:Heap}
def vCC(V:(Nat->Nat)×(Nat->Nat)):XV:=vC V.1++vC V.2
def ie(V:(Nat->Nat)×(Nat->Nat)):(vCC V).length=60:=by simp[vCC,ff]
def nn(V:(Nat->Nat)×(Nat->Nat)):oneCells (vCC V)=true:=by rfl
def MR{V:(Nat->Nat)×(Nat->Nat)}(h:i<30):(vCC V)[i]?=some (.int .i64 (V.1 i)):=by grind[vCC,ff,Ac]
def MS{V:(Nat->Nat)×(Nat->Nat)}(h:i<30):(vCC V)[30+i]?=some (.int .i64 (V.2 i)):=by grind[vCC,ff,Ac]
def J8{V:(Nat->Nat)×(Nat->Nat)}(h:i<30):(vCC V).set i (.int .i64 ((V.1 i+1:Nat):Int))=vCC (vUp V.1 (i:Nat),V.2):=by grind[vCC,ff,Bx]
def J9{V:(Nat->Nat)×(Nat->Nat)}(h:i<30):(vCC V).set (30+i) (.int .i64 ((V.2 i+1:Nat):Int))=vCC (V.1,vUp V.2 (i:Nat)):=by grind[vCC,ff,Bx]
def vtR(V:(Nat->Nat)×(Nat->Nat))(t:Nat):Option (Nat×Nat)->(Nat->Nat)×(Nat->Nat)
 | none=>V
 | some (k,n)=>if (k/3+2*t)%3=0 then(vUp V.1 ((n%30:Nat):Int),V.2) else if (k/3+2*t)%3=1 then(V.1,vUp V.2 ((n%30:Nat):Int)) else V
def rdK:Option (Nat×Nat)->Int
 | none=>-1
 | some (k,_)=>(k:Nat)
def rdN:Option (Nat×Nat)->Int
 | none=>0
 | some (_,n)=>(n:Nat)
theorem Be(o:Option<|Nat×Nat):rdW o=.tuple #[.int .i64<|rdK o,.int .i64<|rdN o]:=by cases o<;>rfl
def MV{V:(Nat->Nat)×(Nat->Nat)}{j oB:Option<|Nat×Nat}{x:Int×Int×Int}(m:∀k v,j=some (k,v)->k<9/\k%3=0)(n:∀k v,oB=some (k,v)->k<9/\k%3=0)(h:scQ j oB=some x):vtR (vtR V 0 j) 1 oB=qg V (some x):=by
 have f:∀k v:Nat,k<9->rnN (k,v)%3=k/3:=λk v h=>by grind[rnN]
 have l:∀N:Nat,((N:Nat):Int).tmod 3=((N%3:Nat):Int):=λN=>rfl;have neg:∀a:Nat->Nat,vUp a (-1)=a:=λa=>Df;have d:∀(k:Nat),k<9->k/3=0\/k/3=1\/k/3=2:=λk h=>by omega
 rcases j with _|⟨k,v⟩<;>rcases oB with _|⟨c,g⟩
 .cases h
 .cases h
  have b:=(n c g rfl).1;unfold qg;simp only[l,f c g b,vtR,neg];rcases d c b with e|e|e<;>rw[e]<;>rfl
 .cases h
  grind[qg,vtR]
 .have b:=(m k v rfl).1
  have p:=(n c g rfl).1;have h:(if rnN (k,v)=rnN (c,g) then _ else none)=some x:=h;split at h
  next e=>
   cases h;have o:k/3=c/3:=Xu
   unfold qg;simp only[l,f k v b,vtR];rw[<-o];rcases d k b with e|e|e<;>rw[e]<;>rfl
  .cases h
namespace XVt
def xtr:=zzi @Int.cast_ofNat_Int<|zzi @ite_self.{1} @ie
end XVt
open XVt
def OS{V:(Nat->Nat)×(Nat->Nat)}{t:Nat}{o:Option<|Nat×Nat}(Y:lo<=H.length)(ht:t<2)(N:∀k v,o=some (k,v)->k<9/\k%3=0/\v<=928)(L:∀j,V.1 j<=100000/\V.2 j<=100000) :
  Ev cp lo 100 [.agg ⟨vCC V⟩,.int .i64<|rdK o,.int .i64<|rdN o,.int .i64 t] H λr H'=>Ext H H'/\r=.agg ⟨vCC<|vtR V t o⟩:=by
 have X:(Value.agg ⟨vCC V⟩).cells=⟨vCC V⟩:=rfl;have hl:=ie V;have h1:=nn V;have a0:(vCC V).take 60=vCC V:=List.take_of_length_le byO;have p:=λi (h:i<30)=>J8 (V:=V) h;have q:=λi (h:i<30)=>J9 (V:=V) h;have u:=λi (h:i<30)=>MR (V:=V) h;have w:=λi (h:i<30)=>MS (V:=V) h;rcases o with _|⟨k,n⟩
 .show Ev cp lo 100 [.agg ⟨vCC V⟩,.int .i64<|-1,.int .i64 0,.int .i64 t] H (λr H'=>Ext H H'/\r=.agg ⟨vCC V⟩)
  generalize vCC V=C at *;clear p q u w L N;have Q:(-1:Int).tdiv 3=0:=rfl;have P:decide ((-1:Int)<0)=true:=rfl;have R:(2:Int)*((t:Nat):Int)=((2*t:Nat):Int):=byO;have S:((2*t:Nat):Int).tmod 3=((2*t%3:Nat):Int):=rfl;apply stG rfl rfl;unfold Fu;simp only[kB,aC];refine aF ?_;generalize c:H++_=G;have d:Ext H G:=by rw[<-c];exact Ext.app _ _
  have y:G.get H.length=some C:=by rw[<-c];exact aI
  obtain⟨Z,b,W⟩:∃Z,G.get (H.length+1)=some Z/\Z.length=60:=by rw[<-c];exact⟨_,XZ,rfl⟩
  clear c;refine dw ?_;refine aF ?_;rw[List.drop_eq_nil_of_le byO,List.append_nil];have d:=d.set (i:=H.length+1) (x:=some C) byO;have b:Heap.get (List.set G (H.length+1)<|some C) (H.length+1)=some C:=aE<|Heap.get_lt b;generalize List.set G (H.length+1) (some C)=K at *;(try simp only[aC]);exact bD<|⟨d,rfl⟩
 .obtain⟨k9,k3,kn⟩:=N k n rfl
  have O:vtR V t (some (k,n))=if (k/3+2*t)%3=0 then(vUp V.1 ((n%30:Nat):Int),V.2) else if (k/3+2*t)%3=1 then(V.1,vUp V.2 ((n%30:Nat):Int)) else V:=rfl
  show Ev cp lo 100 [.agg ⟨vCC V⟩,.int .i64 k,.int .i64 n,.int .i64 t] H (λr H'=>Ext H H'/\r=.agg ⟨vCC<|vtR V t<|some (k,n)⟩);rw[O];have Q:((k:Nat):Int).tdiv 3=((k/3:Nat):Int):=rfl;have R:(2:Int)*((t:Nat):Int)=((2*t:Nat):Int):=byO;have e3:((k/3:Nat):Int)+((2*t:Nat):Int)=((k/3+2*t:Nat):Int):=byO;have S:((k/3+2*t:Nat):Int).tmod 3=(((k/3+2*t)%3:Nat):Int):=rfl;have e4:((n:Nat):Int).tmod 30=((n%30:Nat):Int):=rfl;have b0:(k/3+2*t)%3<3:=Nat.mod_lt _ Wd;have hq:k/3<=2:=byO;have z:n%30<30:=Nat.mod_lt _ Wd;obtain⟨b1,b2⟩:=L<|n%30;have p:=p _ z;have q:=q _ z;have u:=u _ z;have w:=w _ z;have P:decide (((k:Nat):Int)<0)=false:=decide_eq_false byO;clear L O N;generalize (k/3+2*t)%3=m at *;generalize n%30=i at *;generalize A:vCC V=C at *;have M:m=2\/m=0\/m=1:=byO;apply stG rfl rfl;unfold Fu;simp only[kB,aC];refine aF ?_;generalize c:H++_=G;have d:Ext H G:=by rw[<-c];exact Ext.app _ _
  have y:G.get H.length=some C:=by rw[<-c];exact aI
  obtain⟨Z,b,W⟩:∃Z,G.get (H.length+1)=some Z/\Z.length=60:=by rw[<-c];exact⟨_,XZ,rfl⟩
  clear c;rcases M with rfl|rfl|rfl
  .rw[if_neg Wd,if_neg Wd,A]
   clear p q u w;refine dw ?_;refine aF ?_;rw[List.drop_eq_nil_of_le byO,List.append_nil];have d:=d.set (i:=H.length+1) (x:=some C) byO;have b:Heap.get (List.set G (H.length+1)<|some C) (H.length+1)=some C:=aE<|Heap.get_lt b;generalize List.set G (H.length+1) (some C)=K at *;(try simp only[aC]);exact bD<|⟨d,rfl⟩
  .rw[if_pos rfl]
   clear w;generalize f:vCC (vUp V.1 ((i:Nat):Int),V.2)=D at *;have I:D.length=60:=by rw[<-f];exact ie _
   have B:oneCells D=true:=by rw[<-f];exact nn _
   have F:D.take 60=D:=List.take_of_length_le byO;have sD:C.set i (.int .i64<|((V.1 i:Nat):Int)+1)=D:=p;clear f A p q;have g:=d.set (i:=H.length) (x:=some D)<|Nat.le_refl _;have e:Heap.get (List.set G H.length<|some D) H.length=some D:=aE<|Heap.get_lt y;have a:Heap.get (List.set G H.length<|some D) (H.length+1)=some Z:=by rw[aQ byO];exact b
   generalize J:List.set G H.length (some D)=s at *;refine fO ?_;(try simp only[aC]);refine dw ?_;refine aF ?_;rw[List.drop_eq_nil_of_le byO,List.append_nil];have l:=g.set (i:=H.length+1) (x:=some D) byO;have U:Heap.get (List.set s (H.length+1)<|some D) (H.length+1)=some D:=aE<|Heap.get_lt a;generalize List.set s (H.length+1) (some D)=K at *;clear y b a e;(try simp only[aC]);exact bD<|⟨l,rfl⟩
  .rw[if_neg Wd,if_pos rfl]
   clear u;generalize f:vCC (V.1,vUp V.2 ((i:Nat):Int))=D at *;have I:D.length=60:=by rw[<-f];exact ie _
   have B:oneCells D=true:=by rw[<-f];exact nn _
   have F:D.take 60=D:=List.take_of_length_le byO;have sD:C.set (30+i) (.int .i64<|((V.2 i:Nat):Int)+1)=D:=q;clear f A p q;have g:=d.set (i:=H.length) (x:=some D)<|Nat.le_refl _;have e:Heap.get (List.set G H.length<|some D) H.length=some D:=aE<|Heap.get_lt y;have a:Heap.get (List.set G H.length<|some D) (H.length+1)=some Z:=by rw[aQ byO];exact b
   generalize J:List.set G H.length (some D)=s at *;refine fO ?_;(try simp only[aC]);refine fO ?_;refine aF ?_;rw[List.drop_eq_nil_of_le byO,List.append_nil];have l:=g.set (i:=H.length+1) (x:=some D) byO;have U:Heap.get (List.set s (H.length+1)<|some D) (H.length+1)=some D:=aE<|Heap.get_lt a;generalize List.set s (H.length+1) (some D)=K at *;clear y b a e;(try simp only[aC]);exact bD<|⟨l,rfl⟩
end Go.Proofs.YtgiojnobcjnibaaGreatDoor
