/- Lemmas. -/
import Derived.Test.YtmnlgdpdgjbfgaaGreatL31
import Derived.Test.YtmnlgdpdgjbfgaaGreatL40
set_option linter.all false
namespace Go.Proofs.YtmnlgdpdgjbfgaaGreat
open Go.Abs
variable{p:List UInt8}{i:Nat}
set_option maxRecDepth 20000
def stO(n:RN):Nat:=if n.m=0 then 0 else if n.m=1 then stV 1 n.s n.u else if n.m=2 then stV 9 n.s n.u else if n.m=3 then 17 else 18
def ndO(i st:Nat):RN:=if st=0 then asR i else if st<9 then⟨i,1,0,(st-1)%4,decide (4<=st-1)⟩ else if st<17 then⟨i,2,0,(st-9)%4,decide (4<=st-9)⟩ else if st=17 then⟨i,3,0,0,false⟩ else⟨i,4,0,0,false⟩
theorem uf{N i st:Nat}(hi:i<=N)(hs:st<19):(ndO i st).ok N/\(ndO i st).ph=0/\stO (ndO i st)=st/\(ndO i st).i=i:=by
 unfold ndO;by_cases h0:st=0
 ·rw[if_pos h0]
  exact⟨fY hi,rfl,h0.symm,rfl⟩
 ·rw[if_neg h0]
  by_cases h9:st<9
  ·rw[if_pos h9]
   refine⟨⟨hi,by simp,⟨by simp,fun _=>by simp,fun _=>rfl⟩,by simp only;omega,fun e=>by simp only at e;omega⟩,rfl,?_,rfl⟩;show stV 1 ((st-1)%4) (decide (4<=st-1))=st;unfold stV gX;by_cases h:4<=st-1
   ·rw[decide_eq_true h];simp only[if_true];omega
   ·rw[decide_eq_false h];simp only[ah₀,if_false];omega
  ·rw[if_neg h9]
   by_cases h17:st<17
   ·rw[if_pos h17]
    refine⟨⟨hi,by simp,⟨by simp,fun _=>by simp,fun _=>rfl⟩,by simp only;omega,fun e=>by simp only at e;omega⟩,rfl,?_,rfl⟩;show stV 9 ((st-9)%4) (decide (4<=st-9))=st;unfold stV gX;by_cases h:4<=st-9
    ·rw[decide_eq_true h];simp only[if_true];omega
    ·rw[decide_eq_false h];simp only[ah₀,if_false];omega
   ·rw[if_neg h17]
    by_cases h18:st=17
    ·rw[if_pos h18]
     exact⟨⟨hi,by simp,⟨by simp,fun _=>by simp,fun _=>rfl⟩,by simp,fun _=>⟨rfl,rfl⟩⟩,rfl,h18.symm,rfl⟩
    ·rw[if_neg h18]
     exact⟨⟨hi,by simp,⟨by simp,fun e=>absurd rfl e,fun _=>rfl⟩,by simp,fun _=>⟨rfl,rfl⟩⟩,rfl,(by show 18=st;omega),rfl⟩
theorem vP{N:Nat}{n:RN}(h:n.ok N):stO n<19:=by
 have:=h.s.1;unfold stO stV gX;repeat' split
 all_goals first|omega|(simp only;omega)
theorem oa{N:Nat}{n:RN}(h:n.ok N)(hp:n.ph=0):ndO n.i (stO n)=n:=by
 obtain⟨h1,h2,h3,h6,h7⟩:=h;obtain⟨i,m,ph,s,u⟩:=n;simp only at *;subst hp;have hm:m=0\/m=1\/m=2\/m=3\/m=4:=byO;rcases hm with rfl|rfl|rfl|rfl|rfl
 ·obtain⟨rfl,rfl⟩:=h7 (.inl rfl);rfl
 ·have hx:s=0\/s=1\/s=2\/s=3:=byO
  rcases hx with rfl|rfl|rfl|rfl<;>cases u<;>simp[stO,stV,gX,ndO]
 ·have hx:s=0\/s=1\/s=2\/s=3:=byO
  rcases hx with rfl|rfl|rfl|rfl<;>cases u<;>simp[stO,stV,gX,ndO]
 ·obtain⟨rfl,rfl⟩:=h7 (.inr (by decide));rfl
 ·obtain⟨rfl,rfl⟩:=h7 (.inr (by decide));rfl
theorem sK{i m ph s v:Nat}{u:Bool}:dH p ⟨i,m,ph,s,u⟩ v=if m≠3/\s=0/\v<3 then some ⟨i,m,(ph+1)%3,v+1,u⟩
 else if m≠3/\s=2/\v=30/\u=false then some ⟨i,m,(ph+1)%3,0,true⟩
 else if i<p.length/\by' p i=(if m=3 then lL v else if fG (m==2) s v=128 then 256 else fG (m==2) s v+if u then 128 else 0) then some ⟨i+1,m,(ph+1)%3,0,false⟩ else none:=rfl
theorem rL{a s m ph:Nat}{up:Bool}{x:Mv}(hm:m=1\/m=2)(h:x ∈ iX p a s up (m==2)):x.v<40/\dH p ⟨a,m,ph,s,up⟩ x.v=some ⟨x.a,m,(ph+1)%3,x.s,x.u⟩:=by
 have hm3:m≠3:=byO;rw[sK,if_neg hm3];unfold iX at h;rw[bd₀,bd₀]at h;rcases h with (h|h)|h
 ·unfold mvA at h
  split at h
  ·rename_i hs
   unfold mv3 at h;obtain⟨i,hi,rfl⟩:=List.mem_map.1 h;have:=List.mem_range.1 hi;refine⟨by simp only;omega,?_⟩;dsimp only;rw[if_pos ⟨hm3,hs,this⟩]
  ·cases h
 ·unfold mvB at h
  split at h
  ·rename_i hc
   obtain⟨h1,h2,h3⟩:=hc;obtain rfl:=List.mem_singleton.1 h;have hb:=pF p a;have h128:by' p a%128<128:=Nat.mod_lt _ byO;obtain⟨g1,g2,g3⟩:=BE (b:=m==2) h128;have hle:=om (m==2) _ h128;rw[h2]at g1 g2 g3;refine⟨by simp only;omega,?_⟩;dsimp only;rw[if_neg (fun e=>by have:=g2 e.2.1;have:=e.2.2;omega),if_neg (fun e=>g3 e.2.1 e.2.2.1),g1,if_neg (show ¬ by' p a%128=128 by omega)];have hy:by' p a=by' p a%128+if up=true then 128 else 0:=by
    by_cases hb2:128<=by' p a
    ·rw[h3,decide_eq_true hb2];simp only[if_true];omega
    ·rw[h3,decide_eq_false hb2];simp only[ah₀,if_false];omega
   rw[if_pos ⟨h1,hy⟩]
  ·cases h
 ·unfold mvD at h
  split at h
  ·rename_i hc
   obtain⟨rfl,rfl⟩:=hc;obtain rfl:=List.mem_singleton.1 h;refine⟨by simp,?_⟩;dsimp only;rw[if_neg (fun e=>by have:=e.2.1;omega),if_pos ⟨hm3,rfl,rfl,rfl⟩]
  ·cases h
theorem sM{a s m ph v:Nat}{up:Bool}{t:RN}(hm:m=1\/m=2)(hs:s<=3)(hv:v<40)(h:dH p ⟨a,m,ph,s,up⟩ v=some t):⟨v,t.i,t.s,t.u⟩ ∈ iX p a s up (m==2):=by
 have hm3:m≠3:=byO;rw[sK,if_neg hm3]at h;unfold iX;rw[bd₀,bd₀];by_cases hc:m≠3/\s=0/\v<3
 ·rw[if_pos hc]at h
  cases h;refine .inl (.inl ?_);unfold mvA mv3;rw[if_pos hc.2.1];exact List.mem_map.2 ⟨v,List.mem_range.2 hc.2.2,rfl⟩
 ·rw[if_neg hc]at h
  by_cases hc:m≠3/\s=2/\v=30/\up=false
  ·rw[if_pos hc]at h
   obtain⟨_,rfl,rfl,rfl⟩:=hc;cases h;refine .inr ?_;unfold mvD;rw[if_pos ⟨rfl,rfl⟩];simp
  ·rw[if_neg hc]at h
   have hb:=pF p a;by_cases hne:fG (m==2) s v=128
   ·rw[if_pos hne,if_neg (fun e=>by have:=e.2;omega)]at h
    cases h
   ·rw[if_neg hne]at h
    by_cases hc:a<p.length/\by' p a=fG (m==2) s v+if up=true then 128 else 0
    ·rw[if_pos hc]at h
     cases h;obtain⟨h1,h2⟩:=hc;have hlt:=GO hv hne;have hpl:=Bu (b:=m==2) byO hv hne;have hmod:by' p a%128=fG (m==2) s v:=by rw[h2];split<;>omega
     refine .inl (.inr ?_);unfold mvB;have hup:up=decide (128<=by' p a):=by
      rw[h2];cases up
      ·simp only[ah₀,if_false,Nat.add_zero];exact(decide_eq_false byO).symm
      ·simp only[if_true];exact(decide_eq_true byO).symm
     rw[hmod,hpl,if_pos ⟨h1,rfl,hup⟩];simp
    ·rw[if_neg hc]at h
     cases h
def Tri(p:List UInt8)(n:RN)(u v w:Nat)(t:RN):Prop:=∃t1 t2,(dH p n u=some t1/\dH p t1 v=some t2/\dH p t2 w=some t)/\u<40/\v<40/\w<40
theorem dN{N:Nat}{n t:RN}{v:Nat}(hN:p.length=N)(h:n.ok N)(hm:1<=n.m/\n.m<=3)(hu:dH p n v=some t):t.ok N/\t.m=n.m/\t.ph=(n.ph+1)%3:=by
 subst hN;exact⟨x6 h hm hu,sL hu⟩
theorem vU{n t:RN}{u v w:Nat}(h:n.ok p.length)(hm:1<=n.m/\n.m<=3)(hp:n.ph=0)(ht:Tri p n u v w t):t.ok p.length/\t.m=n.m/\t.ph=0:=by
 obtain⟨t1,t2,⟨h1,h2,h3⟩,_⟩:=ht;obtain⟨a1,a2,a3⟩:=dN rfl h hm h1;obtain⟨b1,b2,b3⟩:=dN rfl a1 byO h2;obtain⟨c1,c2,c3⟩:=dN rfl b1 byO h3;exact⟨c1,byO,by rw[c3,b3,a3,hp]⟩
theorem NX{n:RN}(hm:n.m=1\/n.m=2):∃first,HC first (n.m==2)/\stO n=stV first n.s n.u:=by
 rcases hm with h|h
 ·exact⟨1,.inl ⟨rfl,by rw[h];rfl⟩,by unfold stO;rw[h];rfl⟩
 ·exact⟨9,.inr ⟨rfl,by rw[h];rfl⟩,by unfold stO;rw[h];rfl⟩
theorem Ae{n t:RN}{first:Nat}(hm:n.m=1\/n.m=2)(hc:HC first (n.m==2))(ht:t.m=n.m):stO t=stV first t.s t.u:=by
 unfold HC at hc;rcases hm with h|h
 ·rw[h]at hc ht
  rcases hc with ⟨rfl,_⟩|⟨_,e⟩
  ·unfold stO;rw[ht];rfl
  ·cases e
 ·rw[h]at hc ht
  rcases hc with ⟨_,e⟩|⟨rfl,_⟩
  ·cases e
  ·unfold stO;rw[ht];rfl
theorem wk{p:List UInt8}{n:RN}{o:Opt}(hn:n.ok p.length)(hm:1<=n.m/\n.m<=3)(hp:n.ph=0):o ∈ gT p n.i (stO n)↔o=eR n.i\/∃u v w t,Tri p n u v w t/\o=j0 u v w t.i (stO t):=by
 by_cases h12:n.m=1\/n.m=2
 ·obtain⟨first,hct,hst⟩:=NX h12
  have hs3:=hn.s.1;rw[hst,(NA hct byO (p:=p)).1,be₀];refine or_congr Iff.rfl ?_;unfold sf sI pb;obtain⟨i,m,ph,s,up⟩:=n;simp only at *;subst hp;constructor
  ·intro h
   obtain⟨mu,hu,h⟩:=List.mem_flatMap.1 h;obtain⟨mv,hv,h⟩:=List.mem_flatMap.1 h;obtain⟨mw,hw,rfl⟩:=List.mem_map.1 h;obtain⟨u1,u2⟩:=rL (ph:=0) h12 hu;obtain⟨v1,v2⟩:=rL (ph:=1) h12 hv;obtain⟨w1,w2⟩:=rL (ph:=2) h12 hw;refine⟨mu.v,mv.v,mw.v,_,⟨_,_,⟨u2,v2,w2⟩,u1,v1,w1⟩,?_⟩;have e:=Ae (n:=⟨i,m,0,s,up⟩) (t:=⟨mw.a,m,(2+1)%3,mw.s,mw.u⟩) h12 hct rfl;rw[e];rfl
  ·rintro⟨u,v,w,t,⟨t1,t2,⟨h1,h2,h3⟩,hu,hv,hw⟩,rfl⟩
   obtain⟨a1,a2,a3⟩:=dN rfl hn hm h1;simp only at a2 a3;obtain⟨b1,b2,b3⟩:=dN rfl a1 byO h2;obtain⟨c1,c2,c3⟩:=dN rfl b1 byO h3;have e1:=sM h12 hs3 hu h1;obtain⟨i1,m1,ph1,s1,u1⟩:=t1;simp only at a2 a3 b2 b3 e1;subst a2;have e2:=sM h12 a1.s.1 hv h2;obtain⟨i2,m2,ph2,s2,u2⟩:=t2;simp only at b2 b3 c2 c3 e2;subst b2;have e3:=sM h12 b1.s.1 hw h3;refine List.mem_flatMap.2 ⟨_,e1,List.mem_flatMap.2 ⟨_,e2,List.mem_map.2 ⟨_,e3,?_⟩⟩⟩;rw[Ae (n:=⟨i,m2,0,s,up⟩) h12 hct c2];rfl
 ·have h3:n.m=3:=byO
  obtain⟨i,m,ph,s,up⟩:=n;obtain⟨rfl,rfl⟩:=hn.s.2 (.inr byO);simp only at h3 hp;subst h3;subst hp;have hst:stO ⟨i,3,0,0,false⟩=17:=rfl;have hun:∀j ph v,dH p ⟨j,3,ph,0,false⟩ v=if j<p.length/\by' p j=lL v then some ⟨j+1,3,(ph+1)%3,0,false⟩ else none:=by
   intro j ph v;rw[sK,if_neg (fun e=>e.1 rfl),if_neg (fun e=>e.1 rfl)];rfl
  rw[hst];show o ∈ sP p i↔_;unfold sP;rw[be₀];refine or_congr Iff.rfl ?_;constructor
  ·intro h
   split at h
   ·rename_i hc
    obtain⟨c0,c1,c2,c3⟩:=hc;obtain rfl:=List.mem_singleton.1 h;have y1:=sQ (pF p i) c1;have y2:=sQ (pF p (i+1)) c2;have y3:=sQ (pF p (i+2)) c3;have z1:=gF (by' p i);have z2:=gF (by' p (i+1));have z3:=gF (by' p (i+2));refine⟨_,_,_,⟨i+3,3,0,0,false⟩,⟨⟨i+1,3,1,0,false⟩,⟨i+2,3,2,0,false⟩,⟨?_,?_,?_⟩,byO,byO,byO⟩,rfl⟩
    ·rw[hun,if_pos ⟨byO,y1.symm⟩]
    ·rw[hun,if_pos ⟨byO,y2.symm⟩]
    ·rw[hun,if_pos ⟨byO,y3.symm⟩]
   ·cases h
  ·rintro⟨u,v,w,t,⟨t1,t2,⟨h1,h2,h3⟩,hu,hv,hw⟩,rfl⟩
   rw[hun]at h1;split at h1
   ·rename_i g1
    cases h1;rw[hun]at h2;split at h2
    ·rename_i g2
     cases h2;rw[hun]at h3;split at h3
     ·rename_i g3
      cases h3;have y1:=vW hu;have y2:=vW hv;have y3:=vW hw;rw[<-g1.2]at y1;rw[<-g2.2]at y2;rw[<-g3.2]at y3;replace y3:dE (by' p (i+2))=w+1:=y3;rw[if_pos ⟨by have:=g3.1;omega,byO,byO,byO⟩,y1,y2,y3];simp[stO]
     ·cases h3
    ·cases h2
   ·cases h1
abbrev Cn(C:List Nat)(n:RN):Nat:=C.getD (eD n) 0
theorem mN{C:List Nat}(h:SolR p C){n:RN}(hn:n.ok p.length){x:RS}(hx:x ∈ bW p n):Cn C n<=x.c+Cn C x.to:=by
 show C.getD (eD n) 0<=_;rw[h.eq n hn];exact oQ hx
def nG(C:List Nat)(o:Opt):Nat:=o.sz+o.run+Cn C (ndO o.nx o.md)
theorem iE{C:List Nat}(h:SolR p C){n:RN}(hn:n.ok p.length)(hf:Cn C n<1099511627776)(he:¬ qc p n){f:Nat}(hm:mea C n<f)(W Pt:List Nat):∃f1,mea C (dQ p n C).to<f1/\ku p C f n W Pt=ku p C f1 (dQ p n C).to (di p n (dQ p n C) W Pt).1 (di p n (dQ p n C) W Pt).2:=by
 obtain⟨hx,ht,_⟩:=jx h hn hf he;have:=(sA hn hx ht).1;obtain⟨g,rfl⟩:∃g,f=g+1:=⟨f-1,byO⟩;refine⟨g,byO,?_⟩;show(if n.m≠0\/n.i<p.length then _ else W)=_;have hi:=hn.i;have:¬ (n.m=0/\n.i=p.length):=he;rw[if_pos byO]
def EmO(p:List UInt8)(C:List Nat)(n:RN)(o:Opt):Prop:=∀f W Pt,mea C n<f->(n.m=4->Pt.length%4=0)->(n.m≠4->Pt=[])->(∀k,Pt.getD k 0<64) ->
 ∃f' W' Pt',mea C (ndO o.nx o.md)<f'/\ku p C f n W Pt=ku p C f' (ndO o.nx o.md) W' Pt'/\W'++cE Pt'=(W++cE Pt)++emit p (W++cE Pt).length n.i o/\((ndO o.nx o.md).m=4->Pt'.length%4=0)/\((ndO o.nx o.md).m≠4->Pt'=[])/\(∀k,Pt'.getD k 0<64)
structure ChO (p:List UInt8)(C:List Nat)(n:RN)(o:Opt):Prop where
 mem:o ∈ gT p n.i (stO n)
 tot:nG C o=Cn C n
 least:∀o' ∈ gT p n.i (stO n),nG C o'=Cn C n->o'=o\/dR (hd o) (hd o')<0
 em:EmO p C n o
def PR(i:Nat)(o:Opt)(y:RS):Prop:=(∃d,(1<=d/\d<=1749)/\o=cW i d/\y=cV i d) \/
 ((o.h0≠231/\y.w=o.h0)/\(o.run=0/\y.c=o.sz/\1<=o.sz)/\y.to=ndO o.nx o.md/\hd o=y.w::(if 0<=y.s then[y.s.toNat] else[]))
theorem pg(i d:Nat):(cV i d).to=ndO (cW i d).nx (cW i d).md/\(cV i d).c=(cW i d).sz+(cW i d).run/\(cW i d).h0=231/\(cV i d).w=231/\(cW i d).run=d:=by
 unfold cV cW;split
 ·exact⟨rfl,rfl,rfl,rfl,rfl⟩
 ·exact⟨rfl,rfl,rfl,rfl,rfl⟩
theorem yt{C:List Nat}{o:Opt}{y:RS}(h:PR i o y):dk C y=nG C o/\y.w=o.h0:=by
 have e:dk C y=y.c+Cn C y.to:=rfl;unfold nG;rw[e];rcases h with ⟨d,_,rfl,rfl⟩|⟨⟨_,h1⟩,⟨h2,h3,_⟩,h4,_⟩
 ·obtain⟨e1,e2,e3,e4,_⟩:=pg i d
  rw[e1,e2,e3,e4];exact⟨rfl,rfl⟩
 ·rw[h4,h2,h3]
  exact⟨rfl,h1⟩
theorem zO{o:Opt}(h:o ∈ jP p i):∃y ∈ cm p i,PR i o y:=by
 unfold jP at h;rcases List.mem_append.1 h with h|h
 ·have hl:∀j,j<4->(⟨wX (j+1),-1,-1,1,⟨i,j+1,0,0,false⟩⟩:RS) ∈ cm p i:=by
   intro j hj;unfold cm;refine List.mem_append_left _ (List.mem_append_right _ ?_);exact List.mem_map.2 ⟨j,List.mem_range.2 hj,rfl⟩
  simp only[fH,be₀,List.not_mem_nil,or_false]at h;rcases h with rfl|rfl|rfl|rfl
  ·exact⟨_,hl 0 byO,.inr ⟨⟨by simp,rfl⟩,⟨rfl,rfl,by simp⟩,rfl,rfl⟩⟩
  ·exact⟨_,hl 1 byO,.inr ⟨⟨by simp,rfl⟩,⟨rfl,rfl,by simp⟩,rfl,rfl⟩⟩
  ·exact⟨_,hl 2 byO,.inr ⟨⟨by simp,rfl⟩,⟨rfl,rfl,by simp⟩,rfl,rfl⟩⟩
  ·exact⟨_,hl 3 byO,.inr ⟨⟨by simp,rfl⟩,⟨rfl,rfl,by simp⟩,rfl,rfl⟩⟩
 ·split at h
  ·rename_i hi
   rcases List.mem_append.1 h with h|h
   ·rcases List.mem_append.1 h with h|h
    ·obtain rfl:=List.mem_singleton.1 h
     by_cases hb:by' p i<128
     ·refine⟨⟨by' p i+1,-1,-1,1,asR (i+1)⟩,?_,.inr ?_⟩
      ·unfold cm
       refine List.mem_append_left _ (List.mem_append_left _ (List.mem_append_left _ (List.mem_append_right _ ?_)));unfold nh;rw[if_pos ⟨hi,hb⟩];simp
      ·unfold dv
       rw[if_pos hb];exact⟨⟨by simp only;omega,rfl⟩,⟨rfl,rfl,by simp⟩,rfl,rfl⟩
     ·refine⟨⟨235,(by' p i-127:Nat),-1,2,asR (i+1)⟩,?_,.inr ?_⟩
      ·unfold cm
       refine List.mem_append_left _ (List.mem_append_left _ (List.mem_append_right _ ?_));unfold j8;rw[if_pos ⟨hi,byO⟩];simp
      ·unfold dv
       rw[if_neg hb];exact⟨⟨by simp,rfl⟩,⟨rfl,rfl,by simp⟩,rfl,by simp[hd]⟩
    ·unfold jh at h
     split at h
     ·rename_i hc
      obtain⟨c1,c2,c3⟩:=hc;have d2:=cz.1 c2;have d3:=cz.1 c3;obtain rfl:=List.mem_singleton.1 h;refine⟨⟨130+10*(by' p i-48)+(by' p (i+1)-48),-1,-1,1,asR (i+2)⟩,?_,.inr ?_⟩
      ·unfold cm
       refine List.mem_append_left _ (List.mem_append_left _ (List.mem_append_left _ (List.mem_append_left _ ?_)));unfold gZ;rw[if_pos ⟨byO,c2,c3⟩];simp
      ·have e:130+10*(by' p i-48)+(by' p (i+1)-48)=130+(10*(by' p i-48)+by' p (i+1)-48):=byO
       rw[e];exact⟨⟨by simp only;omega,rfl⟩,⟨rfl,rfl,by simp⟩,rfl,rfl⟩
     ·cases h
   ·obtain⟨d,h1,h2,h3,rfl⟩:=fK.1 h
    refine⟨cV i d,?_,.inl ⟨d,⟨h1,h2⟩,rfl,rfl⟩⟩;unfold cm;refine List.mem_append_right _ (List.mem_map.2 ⟨d-1,List.mem_range.2 byO,by rw[show d-1+1=d by omega]⟩)
  ·cases h
theorem GB{y:RS}(h:y ∈ cm p i):∃o ∈ jP p i,PR i o y:=by
 unfold cm at h;simp only[bd₀]at h;rcases h with (((h|h)|h)|h)|h
 ·unfold gZ at h
  split at h
  ·rename_i hc
   obtain⟨c1,c2,c3⟩:=hc;have d2:=cz.1 c2;have d3:=cz.1 c3;obtain rfl:=List.mem_singleton.1 h;refine⟨⟨130+(10*(by' p i-48)+by' p (i+1)-48),0,0,1,0,i+2,0⟩,?_,.inr ?_⟩
   ·unfold jP
    refine List.mem_append_right _ ?_;rw[if_pos byO];refine List.mem_append_left _ (List.mem_append_right _ ?_);unfold jh;rw[if_pos ⟨byO,c2,c3⟩];simp
   ·have e:130+10*(by' p i-48)+(by' p (i+1)-48)=130+(10*(by' p i-48)+by' p (i+1)-48):=byO
    rw[e];exact⟨⟨by simp only;omega,rfl⟩,⟨rfl,rfl,by simp⟩,rfl,rfl⟩
  ·cases h
 ·unfold nh at h
  split at h
  ·rename_i hc
   obtain rfl:=List.mem_singleton.1 h;refine⟨dv (by' p i) i,?_,.inr ?_⟩
   ·unfold jP
    refine List.mem_append_right _ ?_;rw[if_pos hc.1];exact List.mem_append_left _ (List.mem_append_left _ (by simp))
   ·unfold dv
    rw[if_pos hc.2];exact⟨⟨by simp only;omega,rfl⟩,⟨rfl,rfl,by simp⟩,rfl,rfl⟩
  ·cases h
 ·unfold j8 at h
  split at h
  ·rename_i hc
   obtain rfl:=List.mem_singleton.1 h;refine⟨dv (by' p i) i,?_,.inr ?_⟩
   ·unfold jP
    refine List.mem_append_right _ ?_;rw[if_pos hc.1];exact List.mem_append_left _ (List.mem_append_left _ (by simp))
   ·unfold dv
    rw[if_neg byO];exact⟨⟨by simp,rfl⟩,⟨rfl,rfl,by simp⟩,rfl,by simp[hd]⟩
  ·cases h
 ·unfold kf at h
  obtain⟨j,hj,rfl⟩:=List.mem_map.1 h;have:=List.mem_range.1 hj;have hm:∀o ∈ fH i,o ∈ jP p i:=fun o ho=>List.mem_append_left _ ho;have:j=0\/j=1\/j=2\/j=3:=byO;rcases this with rfl|rfl|rfl|rfl
  ·exact⟨⟨230,0,0,1,0,i,1⟩,hm _ (by simp[fH]),.inr ⟨⟨by simp,rfl⟩,⟨rfl,rfl,by simp⟩,rfl,rfl⟩⟩
  ·exact⟨⟨239,0,0,1,0,i,9⟩,hm _ (by simp[fH]),.inr ⟨⟨by simp,rfl⟩,⟨rfl,rfl,by simp⟩,rfl,rfl⟩⟩
  ·exact⟨⟨238,0,0,1,0,i,17⟩,hm _ (by simp[fH]),.inr ⟨⟨by simp,rfl⟩,⟨rfl,rfl,by simp⟩,rfl,rfl⟩⟩
  ·exact⟨⟨240,0,0,1,0,i,18⟩,hm _ (by simp[fH]),.inr ⟨⟨by simp,rfl⟩,⟨rfl,rfl,by simp⟩,rfl,rfl⟩⟩
 ·unfold jK at h
  obtain⟨j,hj,rfl⟩:=List.mem_map.1 h;have:=List.mem_range.1 hj;refine⟨cW i (j+1),?_,.inl ⟨j+1,byO,rfl,rfl⟩⟩;unfold jP;refine List.mem_append_right _ ?_;rw[if_pos byO];exact List.mem_append_right _ (fK.2 ⟨j+1,byO,byO,byO,rfl⟩)
theorem Kr{o o':Opt}(h:o ∈ jP p i)(h':o' ∈ jP p i)(e:o.h0=o'.h0)(hr:o.h0≠231):o=o':=by
 have key:∀o ∈ jP p i,o.h0≠231->o ∈ fH i\/(o=dv (by' p i) i/\(o.h0<=128\/o.h0=235))\/(o=⟨130+(10*(by' p i-48)+by' p (i+1)-48),0,0,1,0,i+2,0⟩/\130<=o.h0/\o.h0<=229):=by
  intro o h hr;unfold jP at h;rcases List.mem_append.1 h with h|h
  ·exact .inl h
  ·split at h
   ·rcases List.mem_append.1 h with h|h
    ·rcases List.mem_append.1 h with h|h
     ·obtain rfl:=List.mem_singleton.1 h
      refine .inr (.inl ⟨rfl,?_⟩);unfold dv;split
      ·exact .inl (by simp only;omega)
      ·exact .inr rfl
     ·unfold jh at h
      split at h
      ·rename_i hc
       obtain⟨c1,c2,c3⟩:=hc;have d2:=cz.1 c2;have d3:=cz.1 c3;obtain rfl:=List.mem_singleton.1 h;exact .inr (.inr ⟨rfl,by simp only;omega,by simp only;omega⟩)
      ·cases h
    ·obtain⟨d,_,_,_,rfl⟩:=fK.1 h
     exact absurd (pg i d).2.2.1 hr
   ·cases h
 have hl:∀o ∈ fH i,o.h0=230\/o.h0=239\/o.h0=238\/o.h0=240:=by
  intro o ho;simp only[fH,be₀,List.not_mem_nil,or_false]at ho;rcases ho with rfl|rfl|rfl|rfl<;>simp
 rcases key o h hr with a|⟨a,a2⟩|⟨a,a2,a3⟩
 ·rcases key o' h' byO with b|⟨b,b2⟩|⟨b,b2,b3⟩
  ·simp only[fH,be₀,List.not_mem_nil,or_false]at a b
   rcases a with rfl|rfl|rfl|rfl<;>rcases b with rfl|rfl|rfl|rfl<;>first|rfl|(simp at e;done)
  ·have:=hl o a;omega
  ·have:=hl o a;omega
 ·rcases key o' h' byO with b|⟨b,b2⟩|⟨b,b2,b3⟩
  ·have:=hl o' b;omega
  ·rw[a,b]
  ·omega
 ·rcases key o' h' byO with b|⟨b,b2⟩|⟨b,b2,b3⟩
  ·have:=hl o' b;omega
  ·omega
  ·rw[a,b]
theorem fO{x y:Nat}{l m:List Nat}(h:x<y):dR (x::l) (y::m)<0:=by
 unfold dR;rw[if_pos h];decide
theorem eT{x:Nat}{l m:List Nat}:dR (x::l) (x::m)=dR l m:=by
 rw[dR,if_neg byO,if_neg byO]
theorem zr{o:Opt}(h:1<=o.sz):∃l,hd o=o.h0::l:=by
 unfold hd;obtain⟨k,hk⟩:∃k,o.sz=k+1:=⟨o.sz-1,byO⟩;rw[hk];exact⟨_,rfl⟩
theorem zV{i d d':Nat}(h:d<d'):dR (hd (cW i d)) (hd (cW i d'))<0:=by
 unfold cW;by_cases h1:d<250
 ·rw[if_pos h1]
  by_cases h2:d'<250
  ·rw[if_pos h2]
   show dR [231,d] [231,d']<0;rw[eT];exact fO h
  ·rw[if_neg h2]
   show dR [231,d] [231,249+d'/250,d'%250]<0;rw[eT];exact fO byO
 ·rw[if_neg h1,if_neg byO]
  show dR [231,249+d/250,d%250] [231,249+d'/250,d'%250]<0;rw[eT];by_cases h2:d/250<d'/250
  ·exact fO byO
  ·have:d/250=d'/250:=byO
   rw[this,eT];exact fO byO
theorem FE{i d d':Nat}(h:d<d'):dG (cV i d) (cV i d')=true:=by
 unfold cV;by_cases h1:d<250
 ·rw[if_pos h1]
  by_cases h2:d'<250
  ·rw[if_pos h2]
   unfold dG;simp only[ne_eq,not_true,if_false];rw[if_pos byO];exact decide_eq_true byO
  ·rw[if_neg h2]
   unfold dG;simp only[ne_eq,not_true,if_false];rw[if_pos byO];exact decide_eq_true byO
 ·rw[if_neg h1,if_neg byO]
  unfold dG;simp only[ne_eq,not_true,if_false];by_cases h2:d/250<d'/250
  ·rw[if_pos byO];exact decide_eq_true byO
  ·have:d/250=d'/250:=byO
   rw[this];simp only[not_true,if_false];exact decide_eq_true byO
theorem Aa{p:List UInt8}{W:List Nat}{i:Nat}:∀{k:Nat},i+k<=p.length->oD p W i k=W++mk W.length (pa p i k)
 | 0,_=>by simp[oD,pa,mk]
 | k+1,h=>by
  have ih:=Aa (p:=p) (W:=W) (i:=i) (k:=k) byO;have hr:pa p i (k+1)=pa p i k++[by' p (i+k)]:=by
   unfold pa by';rw[List.take_succ_eq_append_getElem (by simp;omega),List.map_append];congr 1;simp[au₀,show i+k<p.length by omega]
  have hl:=oF p W i k;have hrl:=xO (p:=p) (a:=i) (n:=k) byO;rw[oD,hr,py,ih,hrl];rw[ih]at hl;simp only[ba₀];rw[hl]
theorem LM{C:List Nat}(h:SolR p C){n:RN}(hn:n.ok p.length)(hm:n.m=0)(hf:Cn C n<1099511627776)(he:¬ qc p n):∃o,ChO p C n o:=by
 obtain⟨hx,ht,hle⟩:=jx h hn hf he;have hst:stO n=0:=by unfold stO;rw[if_pos hm]
 have hop:∀{o},o ∈ gT p n.i (stO n)↔o ∈ jP p n.i:=by intro o;rw[hst];rfl
 have hss:bW p n=cm p n.i:=by unfold bW;rw[if_pos hm]
 have hstep:=fun {f} hm W Pt=>iE h hn hf he (f:=f) hm W Pt;generalize dQ p n C=x at hx ht hle hstep;rw[hss]at hx hle;obtain⟨o,ho,hpr⟩:=GB hx;obtain⟨hpt,hpw⟩:=yt (C:=C) hpr;have htt:nG C o=Cn C n:=by rw[<-hpt];exact ht
 refine⟨o,hop.2 ho,htt,?_,?_⟩
 ·intro o' ho' ht'
  have ho':=hop.1 ho';obtain⟨y,hy,hpr'⟩:=zO ho';obtain⟨hpt',hpw'⟩:=yt (C:=C) hpr';have hl:=hle y hy (by rw[hpt'];exact ht');have hw:¬ y.w<x.w:=by
   intro e;unfold dG at hl;rw[if_pos byO,decide_eq_true e]at hl;cases hl
  have hz:∀{o y},PR n.i o y->1<=o.sz:=by
   intro o y h;rcases h with ⟨d,_,rfl,_⟩|⟨_,⟨_,_,h⟩,_⟩
   ·unfold cW;split<;>simp
   ·exact h
  obtain⟨l,hl1⟩:=zr (hz hpr);obtain⟨l',hl2⟩:=zr (hz hpr');by_cases e:o.h0=o'.h0
  ·by_cases hr:o.h0=231
   ·have g1:∃d,o=cW n.i d/\x=cV n.i d:=by
     rcases hpr with ⟨d,_,h1,h2⟩|⟨⟨h1,_⟩,_⟩
     ·exact⟨d,h1,h2⟩
     ·exact absurd hr h1
    have g2:∃d,o'=cW n.i d/\y=cV n.i d:=by
     rcases hpr' with ⟨d,_,h1,h2⟩|⟨⟨h1,_⟩,_⟩
     ·exact⟨d,h1,h2⟩
     ·exact absurd (e.symm.trans hr) h1
    obtain⟨d,rfl,rfl⟩:=g1;obtain⟨d',rfl,rfl⟩:=g2;by_cases hdd:d<d'
    ·exact .inr (zV hdd)
    ·by_cases hd2:d'<d
     ·rw[FE hd2]at hl;cases hl
     ·exact .inl (by rw[show d'=d by omega])
   ·exact .inl (Kr ho' ho e.symm (by rw[<-e];exact hr))
  ·refine .inr ?_
   rw[hl1,hl2];exact fO byO
 ·intro f W Pt hm2 _ hPt hpv
  obtain⟨f1,hf1,he1⟩:=hstep hm2 W Pt;have hP:=hPt byO;subst hP;have hpk:cE []=[]:=rfl;have hto:x.to=ndO o.nx o.md:=by
   rcases hpr with ⟨d,_,rfl,rfl⟩|⟨_,_,h4,_⟩
   ·exact(pg n.i d).1
   ·exact h4
  rw[hto]at hf1 he1;have hem:di p n x W []=(W++emit p W.length n.i o,[]):=by
   unfold di;rw[if_pos hm];rcases hpr with ⟨d,hd0,rfl,rfl⟩|⟨⟨h1,h2⟩,⟨h3,_⟩,h4,h5⟩
   ·obtain⟨e1,e2,e3,e4,e5⟩:=pg n.i d
    have hnx:(cW n.i d).nx=n.i+d:=nQ _ _;have hdl:n.i+d<=p.length:=by
     have:=(nm (st:=0) hn.i _ ho).nx.2;omega
    have hti:(cV n.i d).to.i-n.i=d:=by
     unfold cV;split<;>simp[asR]
    rw[if_pos e4,hti];congr 1;rw[Aa hdl];unfold emit;rw[if_neg byO,e3,e5];unfold sF CD cV cW hd;by_cases h250:d<250
    ·simp only[if_pos h250]
     rw[if_neg byO];have:(W++[231]++[((d:Int).toNat+msk (W++[231]).length)%256])++mk (W++[231]++[((d:Int).toNat+msk (W++[231]).length)%256]).length (pa p n.i d)=W++231::mk (W.length+1) ([d]++pa p n.i d):=by
      simp[mk]
     exact this
    ·simp only[if_neg h250]
     rw[if_pos byO];have t1:(249+(d:Int)/250).toNat=249+d/250:=byO;have t2:((d:Int)%250).toNat=d%250:=byO;simp[mk,Nat.add_comm];rw[t1,t2,show 1+(W.length+1)=W.length+2 by omega,show 1+(W.length+2)=W.length+3 by omega];exact⟨rfl,rfl,rfl⟩
   ·rw[if_neg byO]
    congr 1;unfold emit;rw[if_pos h3,h5];simp
  rw[hem]at he1;refine⟨f1,_,[],hf1,he1,?_,fun _=>rfl,fun _=>rfl,hpv⟩;rw[hpk,List.append_nil,List.append_nil]
theorem uA{p:List UInt8}{n t:RN}{v:Nat}(h:dH p n v=some t):∀k,v<k->(⟨v,-1,-1,if n.ph=0 then 2 else 0,t⟩:RS) ∈ dZ p n k
 | 0,hk=>by omega
 | k+1,hk=>by
  unfold dZ;by_cases e:v=k
  ·subst e
   rw[h];exact List.mem_append_right _ (by simp)
  ·exact List.mem_append_left _ (uA h k byO)
theorem wW{p:List UInt8}{n:RN}(h:n.ph=0):∀k,(⟨254,-1,-1,1,⟨n.i,0,0,0,false⟩⟩:RS) ∈ dZ p n k
 | 0=>by unfold dZ;rw[if_pos h];simp
 | k+1=>by
  unfold dZ;exact List.mem_append_left _ (wW h k)
theorem jl{n:RN}(hm:1<=n.m/\n.m<=3):bW p n=dZ p n 40:=by
 unfold bW;rw[if_neg byO,if_pos byO];rfl
theorem iq{n t:RN}{v:Nat}(hm:1<=n.m/\n.m<=3)(hv:v<40)(h:dH p n v=some t):(⟨v,-1,-1,if n.ph=0 then 2 else 0,t⟩:RS) ∈ bW p n:=by
 rw[jl hm];exact uA h 40 hv
theorem vT{u v w u' v' w' a a' m m':Nat}(h:1600*u+40*v+w<1600*u'+40*v'+w'):dR (hd (j0 u v w a m)) (hd (j0 u' v' w' a' m'))<0:=by
 show dR [(1600*u+40*v+w+1)/256,(1600*u+40*v+w+1)%256] [(1600*u'+40*v'+w'+1)/256,(1600*u'+40*v'+w'+1)%256]<0;by_cases e:(1600*u+40*v+w+1)/256<(1600*u'+40*v'+w'+1)/256
 ·exact fO e
 ·have:(1600*u+40*v+w+1)/256=(1600*u'+40*v'+w'+1)/256:=byO
  rw[this,eT];exact fO byO
theorem zH{C:List Nat}(h:SolR p C){n t1 t2 t:RN}{u v w:Nat}(hn:n.ok p.length)(hm:1<=n.m/\n.m<=3)(hp:n.ph=0)(h1:dH p n u=some t1)(h2:dH p t1 v=some t2)(h3:dH p t2 w=some t)(hu:u<40)(hv:v<40)(hw:w<40):Cn C n<=2+Cn C t1/\Cn C t1<=Cn C t2/\Cn C t2<=Cn C t:=by
 obtain⟨a1,a2,a3⟩:=dN rfl hn hm h1;obtain⟨b1,b2,b3⟩:=dN rfl a1 byO h2;have l1:=mN h hn (iq hm hu h1);have l2:=mN h a1 (iq byO hv h2);have l3:=mN h b1 (iq byO hw h3);simp only[hp,a3,b3,if_true]at l1 l2 l3;simp only[Nat.zero_add,Nat.reduceMod,Nat.reduceAdd]at l2 l3;refine⟨l1,by simpa using l2,by simpa using l3⟩
theorem LO{C:List Nat}(h:SolR p C){n:RN}(hn:n.ok p.length)(hm:1<=n.m/\n.m<=3)(hp:n.ph=0)(hf:Cn C n<1099511627776):∃o,ChO p C n o:=by
 have hne:∀{t:RN},1<=t.m->¬ qc p t:=fun h e=>by unfold qc at e;omega
 obtain⟨hx,ht,hle⟩:=jx h hn hf (hne hm.1);have hstep:=fun {f} hm' W Pt=>iE h hn hf (hne hm.1) (f:=f) hm' W Pt;have hmem:=@wk p n;have em0:∀{x W},x.w=254->di p n x W []=(W++[254],[]):=by
  intro x W e;unfold di;rw[if_neg byO,if_neg byO,if_pos e]
 have em1:∀{t:RN} {x W Pt},t.m=n.m->x.w<40->Pt.length≠2->di p t x W Pt=(W,Pt++[x.w]):=by
  intro t x W Pt e e2 e3;unfold di;rw[if_neg byO,if_neg byO,if_neg byO,if_neg e3]
 have em2:∀{t:RN} {x W Pt},t.m=n.m->x.w<40->Pt.length=2->di p t x W Pt=(W++[trR Pt x.w/256,trR Pt x.w%256],[]):=by
  intro t x W Pt e e2 e3;unfold di;rw[if_neg byO,if_neg byO,if_neg byO,if_pos e3]
 have hti:dk C (dQ p n C)=(dQ p n C).c+Cn C (dQ p n C).to:=rfl;rw[hti]at ht;replace ht:(dQ p n C).c+Cn C (dQ p n C).to=Cn C n:=ht;generalize dQ p n C=x at hx ht hle hstep hti;have hx':=hx;rw[jl hm]at hx';rcases eJ 40 byO hx' with ⟨rfl,_⟩|⟨u,t1,hu,h1,rfl⟩
 ·refine⟨eR n.i,(hmem hn hm hp).2 (.inl rfl),?_,?_,?_⟩
  ·exact ht
  ·intro o' ho' ht'
   rcases(hmem hn hm hp).1 ho' with rfl|⟨u,v,w,t,⟨t1,t2,⟨g1,g2,g3⟩,hu,hv,hw⟩,rfl⟩
   ·exact .inl rfl
   ·exfalso
    obtain⟨l1,l2,l3⟩:=zH h hn hm hp g1 g2 g3 hu hv hw;obtain⟨c1,c2,c3⟩:=vU hn hm hp ⟨t1,t2,⟨g1,g2,g3⟩,hu,hv,hw⟩;have e0:nG C (j0 u v w t.i (stO t))=2+0+Cn C (ndO t.i (stO t)):=rfl;rw[e0,oa c1 c3]at ht';have hl:=hle _ (iq hm hu g1) (by
     show(if n.ph=0 then 2 else 0)+Cn C t1=Cn C n;rw[if_pos hp];omega)
    unfold dG at hl;rw[if_pos (by simp only;omega),decide_eq_true (by simp only;omega)]at hl;cases hl
  ·intro f W Pt hm2 _ hPt hpv
   obtain⟨f1,hf1,he1⟩:=hstep hm2 W Pt;have hP:=hPt byO;subst hP;rw[em0 rfl]at he1;refine⟨f1,_,[],hf1,he1,?_,fun _=>rfl,fun _=>rfl,hpv⟩;show W++[254]++cE []=(W++cE [])++[254];rw[show cE []=[] from rfl,List.append_nil,List.append_nil]
 ·simp only[hp,if_true]at ht
  obtain⟨a1,a2,a3⟩:=dN rfl hn hm h1;have hf1:Cn C t1<1099511627776:=byO;obtain⟨hx2,ht2,hle2⟩:=jx h a1 hf1 (hne byO);have hstep2:=fun {f} hm' W Pt=>iE h a1 hf1 (hne byO) (f:=f) hm' W Pt;have hti2:dk C (dQ p t1 C)=(dQ p t1 C).c+Cn C (dQ p t1 C).to:=rfl;rw[hti2]at ht2;replace ht2:(dQ p t1 C).c+Cn C (dQ p t1 C).to=Cn C t1:=ht2;generalize dQ p t1 C=x2 at hx2 ht2 hle2 hstep2 hti2;have hx2':=hx2;rw[jl byO]at hx2';rcases eJ 40 byO hx2' with ⟨_,e⟩|⟨v,t2,hv,h2,rfl⟩
  ·omega
  rw[if_neg byO]at ht2 hle2 hstep2;simp only[Nat.zero_add]at ht2;obtain⟨b1,b2,b3⟩:=dN rfl a1 byO h2;have hf2:Cn C t2<1099511627776:=byO;obtain⟨hx3,ht3,hle3⟩:=jx h b1 hf2 (hne byO);have hstep3:=fun {f} hm' W Pt=>iE h b1 hf2 (hne byO) (f:=f) hm' W Pt;have hti3:dk C (dQ p t2 C)=(dQ p t2 C).c+Cn C (dQ p t2 C).to:=rfl;rw[hti3]at ht3;replace ht3:(dQ p t2 C).c+Cn C (dQ p t2 C).to=Cn C t2:=ht3;generalize dQ p t2 C=x3 at hx3 ht3 hle3 hstep3 hti3;have hx3':=hx3;rw[jl byO]at hx3';rcases eJ 40 byO hx3' with ⟨_,e⟩|⟨w,t3,hw,h3,rfl⟩
  ·omega
  rw[if_neg byO]at ht3 hle3 hstep3;simp only[Nat.zero_add]at ht3;clear hti hti2 hti3 hx hx' hx2 hx2' hx3 hx3';obtain⟨c1,c2,c3⟩:=vU hn hm hp ⟨t1,t2,⟨h1,h2,h3⟩,hu,hv,hw⟩;have hnd:=oa c1 c3;refine⟨j0 u v w t3.i (stO t3),(hmem hn hm hp).2 (.inr ⟨u,v,w,t3,⟨t1,t2,⟨h1,h2,h3⟩,hu,hv,hw⟩,rfl⟩),?_,?_,?_⟩
  ·show 2+0+Cn C (ndO t3.i (stO t3))=Cn C n
   rw[hnd];omega
  ·intro o' ho' ht'
   rcases(hmem hn hm hp).1 ho' with rfl|⟨u',v',w',t',⟨t1',t2',⟨g1,g2,g3⟩,hu',hv',hw'⟩,rfl⟩
   ·refine .inr ?_
    show dR [(1600*u+40*v+w+1)/256,(1600*u+40*v+w+1)%256] [254]<0;exact fO byO
   ·obtain⟨l1,l2,l3⟩:=zH h hn hm hp g1 g2 g3 hu' hv' hw'
    obtain⟨d1,d2,d3⟩:=vU hn hm hp ⟨t1',t2',⟨g1,g2,g3⟩,hu',hv',hw'⟩;have e0:nG C (j0 u' v' w' t'.i (stO t'))=2+0+Cn C (ndO t'.i (stO t')):=rfl;rw[e0,oa d1 d3]at ht';have k1:=hle _ (iq hm hu' g1) (by
     show(if n.ph=0 then 2 else 0)+Cn C t1'=Cn C n;rw[if_pos hp];omega)
    rw[if_pos hp]at k1;by_cases e1:u<u'
    ·exact .inr (vT byO)
    ·have e1:u'=u:=by
      refine Decidable.byContradiction fun e=>?_;unfold dG at k1;rw[if_pos (by simp only;omega),decide_eq_true (by simp only;omega)]at k1;cases k1
     subst e1;rw[h1]at g1;obtain rfl:=Option.some.inj g1;have k2:=hle2 _ (iq byO hv' g2) (by
      show(if t1.ph=0 then 2 else 0)+Cn C t2'=Cn C t1;rw[if_neg byO];omega)
     rw[if_neg byO]at k2;by_cases e2:v<v'
     ·exact .inr (vT byO)
     ·have e2:v'=v:=by
       refine Decidable.byContradiction fun e=>?_;unfold dG at k2;rw[if_pos (by simp only;omega),decide_eq_true (by simp only;omega)]at k2;cases k2
      subst e2;rw[h2]at g2;obtain rfl:=Option.some.inj g2;have k3:=hle3 _ (iq byO hw' g3) (by
       show(if t2.ph=0 then 2 else 0)+Cn C t'=Cn C t2;rw[if_neg byO];omega)
      rw[if_neg byO]at k3;by_cases e3:w<w'
      ·exact .inr (vT byO)
      ·have e3:w'=w:=by
        refine Decidable.byContradiction fun e=>?_;unfold dG at k3;rw[if_pos (by simp only;omega),decide_eq_true (by simp only;omega)]at k3;cases k3
       subst e3;rw[h3]at g3;obtain rfl:=Option.some.inj g3;exact .inl rfl
  ·intro f W Pt hm2 _ hPt hpv
   obtain⟨f1,hg1,he1⟩:=hstep hm2 W Pt;have hP:=hPt byO;subst hP;simp only[hp,if_true]at hg1 he1;rw[em1 rfl (by simp only;omega) (by simp)]at he1;obtain⟨f2,hg2,he2⟩:=hstep2 hg1 W [u];simp only at hg2 he2;rw[em1 a2 (by simp only;omega) (by simp)]at he2;obtain⟨f3,hg3,he3⟩:=hstep3 hg2 W [u,v];simp only at hg3 he3;rw[em2 byO (by simp only;omega) rfl]at he3;have hnd':ndO (j0 u v w t3.i (stO t3)).nx (j0 u v w t3.i (stO t3)).md=t3:=hnd;rw[hnd'];refine⟨f3,_,[],hg3,he1.trans (he2.trans he3),?_,fun _=>rfl,fun _=>rfl,by simp⟩;show W++[(1600*u+40*v+w+1)/256,(1600*u+40*v+w+1)%256]++cE []=(W++cE [])++[(1600*u+40*v+w+1)/256,(1600*u+40*v+w+1)%256];rw[show cE []=[] from rfl,List.append_nil,List.append_nil]
def p6(l:List Nat)(s:Nat):Nat->Nat
 | 0=>0
 | t+1=>p6 l s t+iJ l (s+t)*2^(7-t)
theorem LG(l:List Nat)(k:Nat):iJ l k<2:=Nat.mod_lt _ (by decide)
theorem A3{l:List Nat}:∀k,k<=6*l.length->∀q,q<(6*l.length+7)/8->(pkR l k).getD q 0=p6 l (8*q) (min 8 (k-8*q))
 | 0,_,q,hq=>by
  simp only[pkR,au₀,List.getElem?_replicate,if_pos hq,Nat.zero_sub,Nat.min_zero];rfl
 | k+1,hk,q,hq=>by
  have ih:=A3 (l:=l) k byO;have hl:=qB l k;have hb:=LG l k;have hs:(pkR l (k+1)).getD q 0=(pkR l k).getD q 0+if q=k/8 then iJ l k*2^(7-k%8) else 0:=by
   have hst:pkR l (k+1)=if iJ l k=1 then(pkR l k).set (k/8) ((pkR l k).getD (k/8) 0+2^(7-k%8)) else pkR l k:=rfl
   rw[hst];have hk8:k/8<(pkR l k).length:=by rw[hl];omega
   by_cases h1:iJ l k=1
   ·rw[if_pos h1,dD hk8]
    by_cases hq2:q=k/8
    ·subst hq2
     rw[if_pos rfl,if_pos rfl,h1,Nat.one_mul]
    ·rw[if_neg hq2,if_neg hq2,Nat.add_zero]
   ·have h0:iJ l k=0:=byO
    rw[if_neg h1,h0,Nat.zero_mul,ite_self,Nat.add_zero]
  rw[hs,ih q hq];by_cases hq2:q=k/8
  ·rw[if_pos hq2]
   have e1:min 8 (k-8*q)=k%8:=byO;have e2:min 8 (k+1-8*q)=k%8+1:=byO;have e3:8*q+k%8=k:=byO;rw[e1,e2,p6,e3]
  ·rw[if_neg hq2,Nat.add_zero]
   have e:min 8 (k-8*q)=min 8 (k+1-8*q):=byO;rw[e]
theorem iZ(l:List Nat):cE l=(List.range ((6*l.length+7)/8)).map fun q=>p6 l (8*q) (min 8 (6*l.length-8*q)):=by
 have hl:=og l;apply List.ext_getElem
 ·simp[hl]
 ·intro q h1 h2
  have:=A3 (l:=l) (6*l.length) (Nat.le_refl _) q byO;have e:(cE l).getD q 0=(cE l)[q]:=by simp[au₀,h1]
  rw[<-e,List.getElem_map,List.getElem_range];exact this
theorem mY{l m:List Nat}{s r:Nat}:∀t,(∀i,i<t->iJ l (s+i)=iJ m (r+i))->p6 l s t=p6 m r t
 | 0,_=>rfl
 | t+1,h=>by
  rw[p6,p6,mY t (fun i hi=>h i byO),h t byO]
theorem Cc{A L:List Nat}{k:Nat}(h:k<6*A.length):iJ (A++L) k=iJ A k:=by
 unfold iJ;have e:(A++L).getD (k/6) 0=A.getD (k/6) 0:=by
  simp only[au₀];rw[ax₀ byO]
 rw[e]
theorem Aw{A L:List Nat}{k:Nat}:iJ (A++L) (6*A.length+k)=iJ L k:=by
 unfold iJ;have e1:(6*A.length+k)/6=A.length+k/6:=byO;have e2:(6*A.length+k)%6=k%6:=byO;have e:(A++L).getD (A.length+k/6) 0=L.getD (k/6) 0:=by
  simp only[au₀];rw[aw₀ byO,Nat.add_sub_cancel_left]
 rw[e1,e2,e]
theorem tY{A L:List Nat}(h:A.length%4=0):cE (A++L)=cE A++cE L:=by
 obtain⟨m,hm⟩:∃m,A.length=4*m:=⟨A.length/4,byO⟩;rw[iZ (A++L),iZ A,iZ L];have hl:(6*(A++L).length+7)/8=3*m+(6*L.length+7)/8:=by rw[as₀];omega
 have hA:(6*A.length+7)/8=3*m:=byO;rw[hl,hA];apply List.ext_getElem
 ·simp
 ·intro q h1 h2
  simp only[ay₀,List.length_range]at h1;rw[List.getElem_map,List.getElem_range];by_cases hq:q<3*m
  ·rw[List.getElem_append_left (by simpa using hq),List.getElem_map,List.getElem_range]
   have e1:min 8 (6*(A++L).length-8*q)=8:=by rw[as₀];omega
   have e2:min 8 (6*A.length-8*q)=8:=byO;rw[e1,e2];exact mY 8 fun i hi=>Cc byO
  ·rw[List.getElem_append_right (by simp;omega),List.getElem_map,List.getElem_range]
   simp only[ay₀,List.length_range];have e1:6*(A++L).length-8*q=6*L.length-8*(q-3*m):=by rw[as₀];omega
   rw[e1];refine mY _ fun i hi=>?_;have e2:8*q+i=6*A.length+(8*(q-3*m)+i):=byO;rw[e2,Aw]
theorem PN{a x md:Nat}(h:a<64):cE [a]=hd (fF a 1 x md):=by
 rw[iZ];have e:hd (fF a 1 x md)=[a*262144/65536]:=rfl;rw[e];simp only[ak₀,an₀,Nat.reduceAdd,Nat.reduceMul,Nat.reduceDiv,List.range_succ,List.range_zero,List.nil_append,ag₀,al₀,List.map_append,am₀,Nat.mul_zero,Nat.sub_zero,Nat.reduceLeDiff,Nat.min_eq_right,Nat.reduceSub,Nat.min_def,if_true,if_false];simp only[p6,iJ,Nat.reduceAdd,Nat.reduceDiv,Nat.reduceMod,Nat.reduceSub,Nat.reducePow,Nat.zero_add,Nat.add_zero,List.getD_cons_zero,List.getD_cons_succ,Nat.mul_one,Nat.div_one];congr 1;omega
theorem PO{a b x md:Nat}(ha:a<64)(hb:b<64):cE [a,b]=hd (fF (64*a+b) 2 x md):=by
 rw[iZ];have e:hd (fF (64*a+b) 2 x md)=[(64*a+b)*4096/65536,(64*a+b)*4096/256%256]:=rfl;rw[e];simp only[ak₀,an₀,Nat.reduceAdd,Nat.reduceMul,Nat.reduceDiv,List.range_succ,List.range_zero,List.nil_append,ag₀,al₀,List.map_append,am₀,Nat.mul_zero,Nat.sub_zero,Nat.reduceLeDiff,Nat.min_eq_right,Nat.reduceSub,Nat.min_def,if_true,if_false];simp only[p6,iJ,Nat.reduceAdd,Nat.reduceDiv,Nat.reduceMod,Nat.reduceSub,Nat.reducePow,Nat.zero_add,Nat.add_zero,List.getD_cons_zero,List.getD_cons_succ,Nat.mul_one,Nat.div_one];congr 1
 ·omega
 ·congr 1
  omega
theorem PQ{a b c x md:Nat}(ha:a<64)(hb:b<64)(hc:c<64):cE [a,b,c]=hd (fF (64*(64*a+b)+c) 3 x md):=by
 rw[iZ];have e:hd (fF (64*(64*a+b)+c) 3 x md)=[(64*(64*a+b)+c)*64/65536,(64*(64*a+b)+c)*64/256%256,(64*(64*a+b)+c)*64%256]:=rfl;rw[e];simp only[ak₀,an₀,Nat.reduceAdd,Nat.reduceMul,Nat.reduceDiv,List.range_succ,List.range_zero,List.nil_append,ag₀,al₀,List.map_append,am₀,Nat.mul_zero,Nat.sub_zero,Nat.reduceLeDiff,Nat.min_eq_right,Nat.reduceSub,Nat.min_def,if_true,if_false];simp only[p6,iJ,Nat.reduceAdd,Nat.reduceDiv,Nat.reduceMod,Nat.reduceSub,Nat.reducePow,Nat.zero_add,Nat.add_zero,List.getD_cons_zero,List.getD_cons_succ,Nat.mul_one,Nat.div_one];congr 1
 ·omega
 ·congr 1
  ·omega
  ·congr 1
   omega
theorem KC{a b c d x md:Nat}(ha:a<64)(hb:b<64)(hc:c<64)(hd4:d<64):cE [a,b,c,d]=hd (fF (64*(64*(64*a+b)+c)+d) 4 x md):=by
 rw[iZ];have e:hd (fF (64*(64*(64*a+b)+c)+d) 4 x md)=[(64*(64*(64*a+b)+c)+d)*1/65536,(64*(64*(64*a+b)+c)+d)*1/256%256,(64*(64*(64*a+b)+c)+d)*1%256]:=rfl;rw[e];simp only[ak₀,an₀,Nat.reduceAdd,Nat.reduceMul,Nat.reduceDiv,List.range_succ,List.range_zero,List.nil_append,ag₀,al₀,List.map_append,am₀,Nat.mul_zero,Nat.sub_zero,Nat.reduceLeDiff,Nat.min_eq_right,Nat.reduceSub,Nat.min_def,if_true,if_false];simp only[p6,iJ,Nat.reduceAdd,Nat.reduceDiv,Nat.reduceMod,Nat.reduceSub,Nat.reducePow,Nat.zero_add,Nat.add_zero,List.getD_cons_zero,List.getD_cons_succ,Nat.mul_one,Nat.div_one];congr 1
 ·omega
 ·congr 1
  ·omega
  ·congr 1
   omega
end Go.Proofs.YtmnlgdpdgjbfgaaGreat
