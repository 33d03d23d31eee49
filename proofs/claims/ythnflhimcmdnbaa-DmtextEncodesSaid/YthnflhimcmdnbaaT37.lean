/- Dmtext, the reference: its nodes are the program's states; units are values. Dmtext, the reference: its choice in ASCII is the program's. Dmtext, the reference: its choice in C40, Text and X12 is the program's. -/
import Derived.Test.YthnflhimcmdnbaaT29
import Derived.Test.YthnflhimcmdnbaaT35
set_option linter.unusedVariables false
set_option linter.unusedSimpArgs false
set_option linter.unusedSectionVars false
namespace Go.Proofs.Ythnflhimcmdnbaa
open Go.Abs
set_option linter.unusedSimpArgs false
set_option linter.unusedVariables false
set_option maxRecDepth 20000
def stO(n:RN):Nat:=if n.m=0 then 0 else if n.m=1 then stV 1 n.s n.u else if n.m=2 then stV 9 n.s n.u else if n.m=3 then 17 else 18
def ndO(i st:Nat):RN:=if st=0 then asR i else if st<9 then⟨i,1,0,(st-1)%4,decide (4≤st-1)⟩ else if st<17 then⟨i,2,0,(st-9)%4,decide (4≤st-9)⟩ else if st=17 then⟨i,3,0,0,false⟩ else⟨i,4,0,0,false⟩
theorem ndO_ok{N i st:Nat}(hi:i≤N)(hs:st<19):(ndO i st).ok N∧(ndO i st).ph=0∧stO (ndO i st)=st∧(ndO i st).i=i:=by
 unfold ndO
 by_cases h0:st=0
 ·rw[if_pos h0]
  exact⟨asR_ok hi,rfl,h0.symm,rfl⟩
 ·rw[if_neg h0]
  by_cases h9:st<9
  ·rw[if_pos h9]
   refine⟨⟨hi,by simp,⟨by simp,fun _=>by simp,fun _=>rfl⟩,by simp only;omega,fun e=>by simp only at e;omega⟩,rfl,?_,rfl⟩
   show stV 1 ((st-1)%4) (decide (4≤st-1))=st
   unfold stV modeS
   by_cases h:4≤st-1
   ·rw[decide_eq_true h];simp only[if_true];omega
   ·rw[decide_eq_false h];simp only[Bool.false_eq_true,if_false];omega
  ·rw[if_neg h9]
   by_cases h17:st<17
   ·rw[if_pos h17]
    refine⟨⟨hi,by simp,⟨by simp,fun _=>by simp,fun _=>rfl⟩,by simp only;omega,fun e=>by simp only at e;omega⟩,rfl,?_,rfl⟩
    show stV 9 ((st-9)%4) (decide (4≤st-9))=st
    unfold stV modeS
    by_cases h:4≤st-9
    ·rw[decide_eq_true h];simp only[if_true];omega
    ·rw[decide_eq_false h];simp only[Bool.false_eq_true,if_false];omega
   ·rw[if_neg h17]
    by_cases h18:st=17
    ·rw[if_pos h18]
     exact⟨⟨hi,by simp,⟨by simp,fun _=>by simp,fun _=>rfl⟩,by simp,fun _=>⟨rfl,rfl⟩⟩,rfl,h18.symm,rfl⟩
    ·rw[if_neg h18]
     exact⟨⟨hi,by simp,⟨by simp,fun e=>absurd rfl e,fun _=>rfl⟩,by simp,fun _=>⟨rfl,rfl⟩⟩,rfl,(by show 18=st;omega),rfl⟩
theorem stO_lt{N:Nat}{n:RN}(h:n.ok N):stO n<19:=by
 have:=h.s.1
 unfold stO stV modeS
 repeat' split
 all_goals first|omega|(simp only;omega)
theorem ndO_st{N:Nat}{n:RN}(h:n.ok N)(hp:n.ph=0):ndO n.i (stO n)=n:=by
 obtain⟨h1,h2,h3,h6,h7⟩:=h
 obtain⟨i,m,ph,s,u⟩:=n
 simp only at *
 subst hp
 have hm:m=0∨m=1∨m=2∨m=3∨m=4:=by omega
 rcases hm with rfl|rfl|rfl|rfl|rfl
 ·obtain⟨rfl,rfl⟩:=h7 (.inl rfl);rfl
 ·have hx:s=0∨s=1∨s=2∨s=3:=by omega
  rcases hx with rfl|rfl|rfl|rfl<;>cases u<;>simp[stO,stV,modeS,ndO]
 ·have hx:s=0∨s=1∨s=2∨s=3:=by omega
  rcases hx with rfl|rfl|rfl|rfl<;>cases u<;>simp[stO,stV,modeS,ndO]
 ·obtain⟨rfl,rfl⟩:=h7 (.inr (by decide));rfl
 ·obtain⟨rfl,rfl⟩:=h7 (.inr (by decide));rfl
theorem unitR_at{p:List UInt8}{i m ph s v:Nat}{u:Bool}:unitR p ⟨i,m,ph,s,u⟩ v=if m≠3∧s=0∧v<3 then some ⟨i,m,(ph+1)%3,v+1,u⟩
 else if m≠3∧s=2∧v=30∧u=false then some ⟨i,m,(ph+1)%3,0,true⟩
 else if i<p.length∧by' p i=(if m=3 then xchr v else if chrS (m==2) s v=128 then 256 else chrS (m==2) s v+if u then 128 else 0) then some ⟨i+1,m,(ph+1)%3,0,false⟩ else none:=rfl
theorem mov_unit{p:List UInt8}{a s m ph:Nat}{up:Bool}{x:Mv}(hm:m=1∨m=2)(h:x ∈ movS p a s up (m==2)):x.v<40∧unitR p ⟨a,m,ph,s,up⟩ x.v=some ⟨x.a,m,(ph+1)%3,x.s,x.u⟩:=by
 have hm3:m≠3:=by omega
 rw[unitR_at,if_neg hm3]
 unfold movS at h
 rw[List.mem_append,List.mem_append]at h
 rcases h with (h|h)|h
 ·unfold mvA at h
  split at h
  ·rename_i hs
   unfold mv3 at h
   obtain⟨i,hi,rfl⟩:=List.mem_map.1 h
   have:=List.mem_range.1 hi
   refine⟨by simp only;omega,?_⟩
   dsimp only
   rw[if_pos ⟨hm3,hs,this⟩]
  ·cases h
 ·unfold mvB at h
  split at h
  ·rename_i hc
   obtain⟨h1,h2,h3⟩:=hc
   obtain rfl:=List.mem_singleton.1 h
   have hb:=by_lt p a
   have h128:by' p a%128<128:=Nat.mod_lt _ (by omega)
   obtain⟨g1,g2,g3⟩:=chr_place (b:=m==2) h128
   have hle:=placeS_le (m==2) _ h128
   rw[h2]at g1 g2 g3
   refine⟨by simp only;omega,?_⟩
   dsimp only
   rw[if_neg (fun e=>by have:=g2 e.2.1;have:=e.2.2;omega),if_neg (fun e=>g3 e.2.1 e.2.2.1),g1,if_neg (show ¬ by' p a%128=128 by omega)]
   have hy:by' p a=by' p a%128+if up=true then 128 else 0:=by
    by_cases hb2:128≤by' p a
    ·rw[h3,decide_eq_true hb2];simp only[if_true];omega
    ·rw[h3,decide_eq_false hb2];simp only[Bool.false_eq_true,if_false];omega
   rw[if_pos ⟨h1,hy⟩]
  ·cases h
 ·unfold mvD at h
  split at h
  ·rename_i hc
   obtain⟨rfl,rfl⟩:=hc
   obtain rfl:=List.mem_singleton.1 h
   refine⟨by simp,?_⟩
   dsimp only
   rw[if_neg (fun e=>by have:=e.2.1;omega),if_pos ⟨hm3,rfl,rfl,rfl⟩]
  ·cases h
theorem unit_mov{p:List UInt8}{a s m ph v:Nat}{up:Bool}{t:RN}(hm:m=1∨m=2)(hs:s≤3)(hv:v<40)(h:unitR p ⟨a,m,ph,s,up⟩ v=some t):⟨v,t.i,t.s,t.u⟩ ∈ movS p a s up (m==2):=by
 have hm3:m≠3:=by omega
 rw[unitR_at,if_neg hm3]at h
 unfold movS
 rw[List.mem_append,List.mem_append]
 by_cases hc:m≠3∧s=0∧v<3
 ·rw[if_pos hc]at h
  cases h
  refine .inl (.inl ?_)
  unfold mvA mv3
  rw[if_pos hc.2.1]
  exact List.mem_map.2 ⟨v,List.mem_range.2 hc.2.2,rfl⟩
 ·rw[if_neg hc]at h
  by_cases hc:m≠3∧s=2∧v=30∧up=false
  ·rw[if_pos hc]at h
   obtain⟨_,rfl,rfl,rfl⟩:=hc
   cases h
   refine .inr ?_
   unfold mvD
   rw[if_pos ⟨rfl,rfl⟩];simp
  ·rw[if_neg hc]at h
   have hb:=by_lt p a
   by_cases hne:chrS (m==2) s v=128
   ·rw[if_pos hne,if_neg (fun e=>by have:=e.2;omega)]at h
    cases h
   ·rw[if_neg hne]at h
    by_cases hc:a<p.length∧by' p a=chrS (m==2) s v+if up=true then 128 else 0
    ·rw[if_pos hc]at h
     cases h
     obtain⟨h1,h2⟩:=hc
     have hlt:=chrS_lt hv hne
     have hpl:=place_chr (b:=m==2) (by omega) hv hne
     have hmod:by' p a%128=chrS (m==2) s v:=by rw[h2];split<;>omega
     refine .inl (.inr ?_)
     unfold mvB
     have hup:up=decide (128≤by' p a):=by
      rw[h2]
      cases up
      ·simp only[Bool.false_eq_true,if_false,Nat.add_zero];exact(decide_eq_false (by omega)).symm
      ·simp only[if_true];exact(decide_eq_true (by omega)).symm
     rw[hmod,hpl,if_pos ⟨h1,rfl,hup⟩]
     simp
    ·rw[if_neg hc]at h
     cases h
def Tri(p:List UInt8)(n:RN)(u v w:Nat)(t:RN):Prop:=∃t1 t2,(unitR p n u=some t1∧unitR p t1 v=some t2∧unitR p t2 w=some t)∧u<40∧v<40∧w<40
theorem unit_keeps{N:Nat}{p:List UInt8}{n t:RN}{v:Nat}(hN:p.length=N)(h:n.ok N)(hm:1≤n.m∧n.m≤3)(hu:unitR p n v=some t):t.ok N∧t.m=n.m∧t.ph=(n.ph+1)%3:=by
 subst hN
 exact⟨unitR_ok h hm hu,unitR_to hu⟩
theorem tri_ok{p:List UInt8}{n t:RN}{u v w:Nat}(h:n.ok p.length)(hm:1≤n.m∧n.m≤3)(hp:n.ph=0)(ht:Tri p n u v w t):t.ok p.length∧t.m=n.m∧t.ph=0:=by
 obtain⟨t1,t2,⟨h1,h2,h3⟩,_⟩:=ht
 obtain⟨a1,a2,a3⟩:=unit_keeps rfl h hm h1
 obtain⟨b1,b2,b3⟩:=unit_keeps rfl a1 (by omega) h2
 obtain⟨c1,c2,c3⟩:=unit_keeps rfl b1 (by omega) h3
 exact⟨c1,by omega,by rw[c3,b3,a3,hp]⟩
theorem stO_ct{n:RN}(hm:n.m=1∨n.m=2):∃first,isCT first (n.m==2)∧stO n=stV first n.s n.u:=by
 rcases hm with h|h
 ·exact⟨1,.inl ⟨rfl,by rw[h];rfl⟩,by unfold stO;rw[h];rfl⟩
 ·exact⟨9,.inr ⟨rfl,by rw[h];rfl⟩,by unfold stO;rw[h];rfl⟩
theorem stO_ct'{n t:RN}{first:Nat}(hm:n.m=1∨n.m=2)(hc:isCT first (n.m==2))(ht:t.m=n.m):stO t=stV first t.s t.u:=by
 unfold isCT at hc
 rcases hm with h|h
 ·rw[h]at hc ht
  rcases hc with ⟨rfl,_⟩|⟨_,e⟩
  ·unfold stO;rw[ht];rfl
  ·cases e
 ·rw[h]at hc ht
  rcases hc with ⟨_,e⟩|⟨rfl,_⟩
  ·cases e
  ·unfold stO;rw[ht];rfl
theorem optA_tri{p:List UInt8}{n:RN}{o:Opt}(hn:n.ok p.length)(hm:1≤n.m∧n.m≤3)(hp:n.ph=0):o ∈ optA p n.i (stO n)↔o=latO n.i∨∃u v w t,Tri p n u v w t∧o=triO u v w t.i (stO t):=by
 by_cases h12:n.m=1∨n.m=2
 ·obtain⟨first,hct,hst⟩:=stO_ct h12
  have hs3:=hn.s.1
  rw[hst,(opt_ct hct (by omega) (p:=p)).1,List.mem_cons]
  refine or_congr Iff.rfl ?_
  unfold tri1 tri2 tri3
  obtain⟨i,m,ph,s,up⟩:=n
  simp only at *
  subst hp
  constructor
  ·intro h
   obtain⟨mu,hu,h⟩:=List.mem_flatMap.1 h
   obtain⟨mv,hv,h⟩:=List.mem_flatMap.1 h
   obtain⟨mw,hw,rfl⟩:=List.mem_map.1 h
   obtain⟨u1,u2⟩:=mov_unit (ph:=0) h12 hu
   obtain⟨v1,v2⟩:=mov_unit (ph:=1) h12 hv
   obtain⟨w1,w2⟩:=mov_unit (ph:=2) h12 hw
   refine⟨mu.v,mv.v,mw.v,_,⟨_,_,⟨u2,v2,w2⟩,u1,v1,w1⟩,?_⟩
   have e:=stO_ct' (n:=⟨i,m,0,s,up⟩) (t:=⟨mw.a,m,(2+1)%3,mw.s,mw.u⟩) h12 hct rfl
   rw[e]
   rfl
  ·rintro⟨u,v,w,t,⟨t1,t2,⟨h1,h2,h3⟩,hu,hv,hw⟩,rfl⟩
   obtain⟨a1,a2,a3⟩:=unit_keeps rfl hn hm h1
   simp only at a2 a3
   obtain⟨b1,b2,b3⟩:=unit_keeps rfl a1 (by omega) h2
   obtain⟨c1,c2,c3⟩:=unit_keeps rfl b1 (by omega) h3
   have e1:=unit_mov h12 hs3 hu h1
   obtain⟨i1,m1,ph1,s1,u1⟩:=t1
   simp only at a2 a3 b2 b3 e1
   subst a2
   have e2:=unit_mov h12 a1.s.1 hv h2
   obtain⟨i2,m2,ph2,s2,u2⟩:=t2
   simp only at b2 b3 c2 c3 e2
   subst b2
   have e3:=unit_mov h12 b1.s.1 hw h3
   refine List.mem_flatMap.2 ⟨_,e1,List.mem_flatMap.2 ⟨_,e2,List.mem_map.2 ⟨_,e3,?_⟩⟩⟩
   rw[stO_ct' (n:=⟨i,m2,0,s,up⟩) h12 hct c2]
   rfl
 ·have h3:n.m=3:=by omega
  obtain⟨i,m,ph,s,up⟩:=n
  obtain⟨rfl,rfl⟩:=hn.s.2 (.inr (by omega))
  simp only at h3 hp
  subst h3
  subst hp
  have hst:stO ⟨i,3,0,0,false⟩=17:=rfl
  have hun:∀j ph v,unitR p ⟨j,3,ph,0,false⟩ v=if j<p.length∧by' p j=xchr v then some ⟨j+1,3,(ph+1)%3,0,false⟩ else none:=by
   intro j ph v
   rw[unitR_at,if_neg (fun e=>e.1 rfl),if_neg (fun e=>e.1 rfl)];rfl
  rw[hst]
  show o ∈ x12O p i↔_
  unfold x12O
  rw[List.mem_cons]
  refine or_congr Iff.rfl ?_
  constructor
  ·intro h
   split at h
   ·rename_i hc
    obtain⟨c0,c1,c2,c3⟩:=hc
    obtain rfl:=List.mem_singleton.1 h
    have y1:=xchr_x12 (by_lt p i) c1
    have y2:=xchr_x12 (by_lt p (i+1)) c2
    have y3:=xchr_x12 (by_lt p (i+2)) c3
    have z1:=x12S_le (by' p i)
    have z2:=x12S_le (by' p (i+1))
    have z3:=x12S_le (by' p (i+2))
    refine⟨_,_,_,⟨i+3,3,0,0,false⟩,⟨⟨i+1,3,1,0,false⟩,⟨i+2,3,2,0,false⟩,⟨?_,?_,?_⟩,by omega,by omega,by omega⟩,rfl⟩
    ·rw[hun,if_pos ⟨by omega,y1.symm⟩]
    ·rw[hun,if_pos ⟨by omega,y2.symm⟩]
    ·rw[hun,if_pos ⟨by omega,y3.symm⟩]
   ·cases h
  ·rintro⟨u,v,w,t,⟨t1,t2,⟨h1,h2,h3⟩,hu,hv,hw⟩,rfl⟩
   rw[hun]at h1
   split at h1
   ·rename_i g1
    cases h1
    rw[hun]at h2
    split at h2
    ·rename_i g2
     cases h2
     rw[hun]at h3
     split at h3
     ·rename_i g3
      cases h3
      have y1:=x12_chr hu
      have y2:=x12_chr hv
      have y3:=x12_chr hw
      rw[←g1.2]at y1
      rw[←g2.2]at y2
      rw[←g3.2]at y3
      replace y3:x12S (by' p (i+2))=w+1:=y3
      rw[if_pos ⟨by have:=g3.1;omega,by omega,by omega,by omega⟩,y1,y2,y3]
      simp[stO]
     ·cases h3
    ·cases h2
   ·cases h1
end Go.Proofs.Ythnflhimcmdnbaa
namespace Go.Proofs.Ythnflhimcmdnbaa
open Go.Abs
set_option linter.unusedSimpArgs false
set_option linter.unusedVariables false
set_option maxRecDepth 20000
abbrev Cn(C:List Nat)(n:RN):Nat:=C.getD (idxR n) 0
theorem cn_le{p:List UInt8}{C:List Nat}(h:SolR p C){n:RN}(hn:n.ok p.length){x:RS}(hx:x ∈ stepsR p n):Cn C n≤x.c+Cn C x.to:=by
 show C.getD (idxR n) 0≤_
 rw[h.eq n hn]
 exact best_step hx
def totO(C:List Nat)(o:Opt):Nat:=o.sz+o.run+Cn C (ndO o.nx o.md)
theorem encR_step{p:List UInt8}{C:List Nat}(h:SolR p C){n:RN}(hn:n.ok p.length)(hf:Cn C n<1099511627776)(he:¬ endR p n){f:Nat}(hm:mea C n<f)(W Pt:List Nat):∃f1,mea C (choR p n C).to<f1∧encR p C f n W Pt=encR p C f1 (choR p n C).to (emitR p n (choR p n C) W Pt).1 (emitR p n (choR p n C) W Pt).2:=by
 obtain⟨hx,ht,_⟩:=cho_ok h hn hf he
 have:=(step_mea hn hx ht).1
 obtain⟨g,rfl⟩:∃g,f=g+1:=⟨f-1,by omega⟩
 refine⟨g,by omega,?_⟩
 show(if n.m≠0∨n.i<p.length then _ else W)=_
 have hi:=hn.i
 have:¬ (n.m=0∧n.i=p.length):=he
 rw[if_pos (by omega)]
def EmO(p:List UInt8)(C:List Nat)(n:RN)(o:Opt):Prop:=∀f W Pt,mea C n<f→(n.m=4→Pt.length%4=0)→(n.m≠4→Pt=[])→(∀k,Pt.getD k 0<64) →
 ∃f' W' Pt',mea C (ndO o.nx o.md)<f'∧encR p C f n W Pt=encR p C f' (ndO o.nx o.md) W' Pt'∧W'++packR Pt'=(W++packR Pt)++emit p (W++packR Pt).length n.i o∧((ndO o.nx o.md).m=4→Pt'.length%4=0)∧((ndO o.nx o.md).m≠4→Pt'=[])∧(∀k,Pt'.getD k 0<64)
structure ChO (p:List UInt8)(C:List Nat)(n:RN)(o:Opt):Prop where
 mem:o ∈ optA p n.i (stO n)
 tot:totO C o=Cn C n
 least:∀o' ∈ optA p n.i (stO n),totO C o'=Cn C n→o'=o∨cmpS (hd o) (hd o')<0
 em:EmO p C n o
def PR(i:Nat)(o:Opt)(y:RS):Prop:=(∃d,(1≤d∧d≤1749)∧o=binO i d∧y=runR i d) ∨
 ((o.h0≠231∧y.w=o.h0)∧(o.run=0∧y.c=o.sz∧1≤o.sz)∧y.to=ndO o.nx o.md∧hd o=y.w::(if 0≤y.s then[y.s.toNat] else[]))
theorem binO_to(i d:Nat):(runR i d).to=ndO (binO i d).nx (binO i d).md∧(runR i d).c=(binO i d).sz+(binO i d).run∧(binO i d).h0=231∧(runR i d).w=231∧(binO i d).run=d:=by
 unfold runR binO
 split
 ·exact⟨rfl,rfl,rfl,rfl,rfl⟩
 ·exact⟨rfl,rfl,rfl,rfl,rfl⟩
theorem pr_tot{C:List Nat}{i:Nat}{o:Opt}{y:RS}(h:PR i o y):totR C y=totO C o∧y.w=o.h0:=by
 have e:totR C y=y.c+Cn C y.to:=rfl
 unfold totO
 rw[e]
 rcases h with ⟨d,_,rfl,rfl⟩|⟨⟨_,h1⟩,⟨h2,h3,_⟩,h4,_⟩
 ·obtain⟨e1,e2,e3,e4,_⟩:=binO_to i d
  rw[e1,e2,e3,e4]
  exact⟨rfl,rfl⟩
 ·rw[h4,h2,h3]
  exact⟨rfl,h1⟩
theorem asc_fwd{p:List UInt8}{i:Nat}{o:Opt}(h:o ∈ ascA p i):∃y ∈ startsR p i,PR i o y:=by
 unfold ascA at h
 rcases List.mem_append.1 h with h|h
 ·have hl:∀j,j<4→(⟨latW (j+1),-1,-1,1,⟨i,j+1,0,0,false⟩⟩:RS) ∈ startsR p i:=by
   intro j hj
   unfold startsR
   refine List.mem_append_left _ (List.mem_append_right _ ?_)
   exact List.mem_map.2 ⟨j,List.mem_range.2 hj,rfl⟩
  simp only[lats,List.mem_cons,List.not_mem_nil,or_false]at h
  rcases h with rfl|rfl|rfl|rfl
  ·exact⟨_,hl 0 (by omega),.inr ⟨⟨by simp,rfl⟩,⟨rfl,rfl,by simp⟩,rfl,rfl⟩⟩
  ·exact⟨_,hl 1 (by omega),.inr ⟨⟨by simp,rfl⟩,⟨rfl,rfl,by simp⟩,rfl,rfl⟩⟩
  ·exact⟨_,hl 2 (by omega),.inr ⟨⟨by simp,rfl⟩,⟨rfl,rfl,by simp⟩,rfl,rfl⟩⟩
  ·exact⟨_,hl 3 (by omega),.inr ⟨⟨by simp,rfl⟩,⟨rfl,rfl,by simp⟩,rfl,rfl⟩⟩
 ·split at h
  ·rename_i hi
   rcases List.mem_append.1 h with h|h
   ·rcases List.mem_append.1 h with h|h
    ·obtain rfl:=List.mem_singleton.1 h
     by_cases hb:by' p i<128
     ·refine⟨⟨by' p i+1,-1,-1,1,asR (i+1)⟩,?_,.inr ?_⟩
      ·unfold startsR
       refine List.mem_append_left _ (List.mem_append_left _ (List.mem_append_left _ (List.mem_append_right _ ?_)))
       unfold lowR
       rw[if_pos ⟨hi,hb⟩];simp
      ·unfold byteO
       rw[if_pos hb]
       exact⟨⟨by simp only;omega,rfl⟩,⟨rfl,rfl,by simp⟩,rfl,rfl⟩
     ·refine⟨⟨235,(by' p i-127:Nat),-1,2,asR (i+1)⟩,?_,.inr ?_⟩
      ·unfold startsR
       refine List.mem_append_left _ (List.mem_append_left _ (List.mem_append_right _ ?_))
       unfold highR
       rw[if_pos ⟨hi,by omega⟩];simp
      ·unfold byteO
       rw[if_neg hb]
       exact⟨⟨by simp,rfl⟩,⟨rfl,rfl,by simp⟩,rfl,by simp[hd]⟩
    ·unfold pairO at h
     split at h
     ·rename_i hc
      obtain⟨c1,c2,c3⟩:=hc
      have d2:=digB_iff.1 c2
      have d3:=digB_iff.1 c3
      obtain rfl:=List.mem_singleton.1 h
      refine⟨⟨130+10*(by' p i-48)+(by' p (i+1)-48),-1,-1,1,asR (i+2)⟩,?_,.inr ?_⟩
      ·unfold startsR
       refine List.mem_append_left _ (List.mem_append_left _ (List.mem_append_left _ (List.mem_append_left _ ?_)))
       unfold pairR
       rw[if_pos ⟨by omega,c2,c3⟩];simp
      ·have e:130+10*(by' p i-48)+(by' p (i+1)-48)=130+(10*(by' p i-48)+by' p (i+1)-48):=by omega
       rw[e]
       exact⟨⟨by simp only;omega,rfl⟩,⟨rfl,rfl,by simp⟩,rfl,rfl⟩
     ·cases h
   ·obtain⟨d,h1,h2,h3,rfl⟩:=binA_mem.1 h
    refine⟨runR i d,?_,.inl ⟨d,⟨h1,h2⟩,rfl,rfl⟩⟩
    unfold startsR
    refine List.mem_append_right _ (List.mem_map.2 ⟨d-1,List.mem_range.2 (by omega),by rw[show d-1+1=d by omega]⟩)
  ·cases h
theorem asc_bwd{p:List UInt8}{i:Nat}{y:RS}(h:y ∈ startsR p i):∃o ∈ ascA p i,PR i o y:=by
 unfold startsR at h
 simp only[List.mem_append]at h
 rcases h with (((h|h)|h)|h)|h
 ·unfold pairR at h
  split at h
  ·rename_i hc
   obtain⟨c1,c2,c3⟩:=hc
   have d2:=digB_iff.1 c2
   have d3:=digB_iff.1 c3
   obtain rfl:=List.mem_singleton.1 h
   refine⟨⟨130+(10*(by' p i-48)+by' p (i+1)-48),0,0,1,0,i+2,0⟩,?_,.inr ?_⟩
   ·unfold ascA
    refine List.mem_append_right _ ?_
    rw[if_pos (by omega)]
    refine List.mem_append_left _ (List.mem_append_right _ ?_)
    unfold pairO
    rw[if_pos ⟨by omega,c2,c3⟩];simp
   ·have e:130+10*(by' p i-48)+(by' p (i+1)-48)=130+(10*(by' p i-48)+by' p (i+1)-48):=by omega
    rw[e]
    exact⟨⟨by simp only;omega,rfl⟩,⟨rfl,rfl,by simp⟩,rfl,rfl⟩
  ·cases h
 ·unfold lowR at h
  split at h
  ·rename_i hc
   obtain rfl:=List.mem_singleton.1 h
   refine⟨byteO (by' p i) i,?_,.inr ?_⟩
   ·unfold ascA
    refine List.mem_append_right _ ?_
    rw[if_pos hc.1]
    exact List.mem_append_left _ (List.mem_append_left _ (by simp))
   ·unfold byteO
    rw[if_pos hc.2]
    exact⟨⟨by simp only;omega,rfl⟩,⟨rfl,rfl,by simp⟩,rfl,rfl⟩
  ·cases h
 ·unfold highR at h
  split at h
  ·rename_i hc
   obtain rfl:=List.mem_singleton.1 h
   refine⟨byteO (by' p i) i,?_,.inr ?_⟩
   ·unfold ascA
    refine List.mem_append_right _ ?_
    rw[if_pos hc.1]
    exact List.mem_append_left _ (List.mem_append_left _ (by simp))
   ·unfold byteO
    rw[if_neg (by omega)]
    exact⟨⟨by simp,rfl⟩,⟨rfl,rfl,by simp⟩,rfl,by simp[hd]⟩
  ·cases h
 ·unfold latR at h
  obtain⟨j,hj,rfl⟩:=List.mem_map.1 h
  have:=List.mem_range.1 hj
  have hm:∀o ∈ lats i,o ∈ ascA p i:=fun o ho=>List.mem_append_left _ ho
  have:j=0∨j=1∨j=2∨j=3:=by omega
  rcases this with rfl|rfl|rfl|rfl
  ·exact⟨⟨230,0,0,1,0,i,1⟩,hm _ (by simp[lats]),.inr ⟨⟨by simp,rfl⟩,⟨rfl,rfl,by simp⟩,rfl,rfl⟩⟩
  ·exact⟨⟨239,0,0,1,0,i,9⟩,hm _ (by simp[lats]),.inr ⟨⟨by simp,rfl⟩,⟨rfl,rfl,by simp⟩,rfl,rfl⟩⟩
  ·exact⟨⟨238,0,0,1,0,i,17⟩,hm _ (by simp[lats]),.inr ⟨⟨by simp,rfl⟩,⟨rfl,rfl,by simp⟩,rfl,rfl⟩⟩
  ·exact⟨⟨240,0,0,1,0,i,18⟩,hm _ (by simp[lats]),.inr ⟨⟨by simp,rfl⟩,⟨rfl,rfl,by simp⟩,rfl,rfl⟩⟩
 ·unfold runsR at h
  obtain⟨j,hj,rfl⟩:=List.mem_map.1 h
  have:=List.mem_range.1 hj
  refine⟨binO i (j+1),?_,.inl ⟨j+1,by omega,rfl,rfl⟩⟩
  unfold ascA
  refine List.mem_append_right _ ?_
  rw[if_pos (by omega)]
  exact List.mem_append_right _ (binA_mem.2 ⟨j+1,by omega,by omega,by omega,rfl⟩)
theorem asc_h0{p:List UInt8}{i:Nat}{o o':Opt}(h:o ∈ ascA p i)(h':o' ∈ ascA p i)(e:o.h0=o'.h0)(hr:o.h0≠231):o=o':=by
 have key:∀o ∈ ascA p i,o.h0≠231→o ∈ lats i∨(o=byteO (by' p i) i∧(o.h0≤128∨o.h0=235))∨(o=⟨130+(10*(by' p i-48)+by' p (i+1)-48),0,0,1,0,i+2,0⟩∧130≤o.h0∧o.h0≤229):=by
  intro o h hr
  unfold ascA at h
  rcases List.mem_append.1 h with h|h
  ·exact .inl h
  ·split at h
   ·rcases List.mem_append.1 h with h|h
    ·rcases List.mem_append.1 h with h|h
     ·obtain rfl:=List.mem_singleton.1 h
      refine .inr (.inl ⟨rfl,?_⟩)
      unfold byteO
      split
      ·exact .inl (by simp only;omega)
      ·exact .inr rfl
     ·unfold pairO at h
      split at h
      ·rename_i hc
       obtain⟨c1,c2,c3⟩:=hc
       have d2:=digB_iff.1 c2
       have d3:=digB_iff.1 c3
       obtain rfl:=List.mem_singleton.1 h
       exact .inr (.inr ⟨rfl,by simp only;omega,by simp only;omega⟩)
      ·cases h
    ·obtain⟨d,_,_,_,rfl⟩:=binA_mem.1 h
     exact absurd (binO_to i d).2.2.1 hr
   ·cases h
 have hl:∀o ∈ lats i,o.h0=230∨o.h0=239∨o.h0=238∨o.h0=240:=by
  intro o ho
  simp only[lats,List.mem_cons,List.not_mem_nil,or_false]at ho
  rcases ho with rfl|rfl|rfl|rfl<;>simp
 rcases key o h hr with a|⟨a,a2⟩|⟨a,a2,a3⟩
 ·rcases key o' h' (by omega)with b|⟨b,b2⟩|⟨b,b2,b3⟩
  ·simp only[lats,List.mem_cons,List.not_mem_nil,or_false]at a b
   rcases a with rfl|rfl|rfl|rfl<;>rcases b with rfl|rfl|rfl|rfl<;>first|rfl|(simp at e;done)
  ·have:=hl o a;omega
  ·have:=hl o a;omega
 ·rcases key o' h' (by omega)with b|⟨b,b2⟩|⟨b,b2,b3⟩
  ·have:=hl o' b;omega
  ·rw[a,b]
  ·omega
 ·rcases key o' h' (by omega)with b|⟨b,b2⟩|⟨b,b2,b3⟩
  ·have:=hl o' b;omega
  ·omega
  ·rw[a,b]
theorem cmp_h0{x y:Nat}{l m:List Nat}(h:x<y):cmpS (x::l) (y::m)<0:=by
 unfold cmpS;rw[if_pos h];decide
theorem cmp_same{x:Nat}{l m:List Nat}:cmpS (x::l) (x::m)=cmpS l m:=by
 rw[cmpS,if_neg (by omega),if_neg (by omega)]
theorem hd_cons{o:Opt}(h:1≤o.sz):∃l,hd o=o.h0::l:=by
 unfold hd
 obtain⟨k,hk⟩:∃k,o.sz=k+1:=⟨o.sz-1,by omega⟩
 rw[hk]
 exact⟨_,rfl⟩
theorem bin_cmp{i d d':Nat}(h:d<d'):cmpS (hd (binO i d)) (hd (binO i d'))<0:=by
 unfold binO
 by_cases h1:d<250
 ·rw[if_pos h1]
  by_cases h2:d'<250
  ·rw[if_pos h2]
   show cmpS [231,d] [231,d']<0
   rw[cmp_same]
   exact cmp_h0 h
  ·rw[if_neg h2]
   show cmpS [231,d] [231,249+d'/250,d'%250]<0
   rw[cmp_same]
   exact cmp_h0 (by omega)
 ·rw[if_neg h1,if_neg (by omega)]
  show cmpS [231,249+d/250,d%250] [231,249+d'/250,d'%250]<0
  rw[cmp_same]
  by_cases h2:d/250<d'/250
  ·exact cmp_h0 (by omega)
  ·have:d/250=d'/250:=by omega
   rw[this,cmp_same]
   exact cmp_h0 (by omega)
theorem run_less{i d d':Nat}(h:d<d'):lessR (runR i d) (runR i d')=true:=by
 unfold runR
 by_cases h1:d<250
 ·rw[if_pos h1]
  by_cases h2:d'<250
  ·rw[if_pos h2]
   unfold lessR
   simp only[ne_eq,not_true,if_false]
   rw[if_pos (by omega)];exact decide_eq_true (by omega)
  ·rw[if_neg h2]
   unfold lessR
   simp only[ne_eq,not_true,if_false]
   rw[if_pos (by omega)];exact decide_eq_true (by omega)
 ·rw[if_neg h1,if_neg (by omega)]
  unfold lessR
  simp only[ne_eq,not_true,if_false]
  by_cases h2:d/250<d'/250
  ·rw[if_pos (by omega)];exact decide_eq_true (by omega)
  ·have:d/250=d'/250:=by omega
   rw[this]
   simp only[not_true,if_false]
   exact decide_eq_true (by omega)
theorem runZ_eq{p:List UInt8}{W:List Nat}{i:Nat}:∀{k:Nat},i+k≤p.length→runZ p W i k=W++mk W.length (runB p i k)
 | 0,_=>by simp[runZ,runB,mk]
 | k+1,h=>by
  have ih:=runZ_eq (p:=p) (W:=W) (i:=i) (k:=k) (by omega)
  have hr:runB p i (k+1)=runB p i k++[by' p (i+k)]:=by
   unfold runB by'
   rw[List.take_succ_eq_append_getElem (by simp;omega),List.map_append]
   congr 1
   simp[List.getD_eq_getElem?_getD,show i+k<p.length by omega]
  have hl:=runZ_len p W i k
  have hrl:=runB_len (p:=p) (a:=i) (n:=k) (by omega)
  rw[runZ,hr,mk_snoc,ih,hrl]
  rw[ih]at hl
  simp only[List.append_assoc]
  rw[hl]
theorem ch_asc{p:List UInt8}{C:List Nat}(h:SolR p C){n:RN}(hn:n.ok p.length)(hm:n.m=0)(hf:Cn C n<1099511627776)(he:¬ endR p n):∃o,ChO p C n o:=by
 obtain⟨hx,ht,hle⟩:=cho_ok h hn hf he
 have hst:stO n=0:=by unfold stO;rw[if_pos hm]
 have hop:∀{o},o ∈ optA p n.i (stO n)↔o ∈ ascA p n.i:=by intro o;rw[hst];rfl
 have hss:stepsR p n=startsR p n.i:=by unfold stepsR;rw[if_pos hm]
 have hstep:=fun {f} hm W Pt=>encR_step h hn hf he (f:=f) hm W Pt
 generalize choR p n C=x at hx ht hle hstep
 rw[hss]at hx hle
 obtain⟨o,ho,hpr⟩:=asc_bwd hx
 obtain⟨hpt,hpw⟩:=pr_tot (C:=C) hpr
 have htt:totO C o=Cn C n:=by rw[←hpt];exact ht
 refine⟨o,hop.2 ho,htt,?_,?_⟩
 ·intro o' ho' ht'
  have ho':=hop.1 ho'
  obtain⟨y,hy,hpr'⟩:=asc_fwd ho'
  obtain⟨hpt',hpw'⟩:=pr_tot (C:=C) hpr'
  have hl:=hle y hy (by rw[hpt'];exact ht')
  have hw:¬ y.w<x.w:=by
   intro e
   unfold lessR at hl
   rw[if_pos (by omega),decide_eq_true e]at hl
   cases hl
  have hz:∀{o y},PR n.i o y→1≤o.sz:=by
   intro o y h
   rcases h with ⟨d,_,rfl,_⟩|⟨_,⟨_,_,h⟩,_⟩
   ·unfold binO;split<;>simp
   ·exact h
  obtain⟨l,hl1⟩:=hd_cons (hz hpr)
  obtain⟨l',hl2⟩:=hd_cons (hz hpr')
  by_cases e:o.h0=o'.h0
  ·by_cases hr:o.h0=231
   ·have g1:∃d,o=binO n.i d∧x=runR n.i d:=by
     rcases hpr with ⟨d,_,h1,h2⟩|⟨⟨h1,_⟩,_⟩
     ·exact⟨d,h1,h2⟩
     ·exact absurd hr h1
    have g2:∃d,o'=binO n.i d∧y=runR n.i d:=by
     rcases hpr' with ⟨d,_,h1,h2⟩|⟨⟨h1,_⟩,_⟩
     ·exact⟨d,h1,h2⟩
     ·exact absurd (e.symm.trans hr) h1
    obtain⟨d,rfl,rfl⟩:=g1
    obtain⟨d',rfl,rfl⟩:=g2
    by_cases hdd:d<d'
    ·exact .inr (bin_cmp hdd)
    ·by_cases hd2:d'<d
     ·rw[run_less hd2]at hl;cases hl
     ·exact .inl (by rw[show d'=d by omega])
   ·exact .inl (asc_h0 ho' ho e.symm (by rw[←e];exact hr))
  ·refine .inr ?_
   rw[hl1,hl2]
   exact cmp_h0 (by omega)
 ·intro f W Pt hm2 _ hPt hpv
  obtain⟨f1,hf1,he1⟩:=hstep hm2 W Pt
  have hP:=hPt (by omega)
  subst hP
  have hpk:packR []=[]:=rfl
  have hto:x.to=ndO o.nx o.md:=by
   rcases hpr with ⟨d,_,rfl,rfl⟩|⟨_,_,h4,_⟩
   ·exact(binO_to n.i d).1
   ·exact h4
  rw[hto]at hf1 he1
  have hem:emitR p n x W []=(W++emit p W.length n.i o,[]):=by
   unfold emitR
   rw[if_pos hm]
   rcases hpr with ⟨d,hd0,rfl,rfl⟩|⟨⟨h1,h2⟩,⟨h3,_⟩,h4,h5⟩
   ·obtain⟨e1,e2,e3,e4,e5⟩:=binO_to n.i d
    have hnx:(binO n.i d).nx=n.i+d:=binO_nx _ _
    have hdl:n.i+d≤p.length:=by
     have:=(optA_ok (st:=0) hn.i _ ho).nx.2
     omega
    have hti:(runR n.i d).to.i-n.i=d:=by
     unfold runR;split<;>simp[asR]
    rw[if_pos e4,hti]
    congr 1
    rw[runZ_eq hdl]
    unfold emit
    rw[if_neg (by omega),e3,e5]
    unfold thiR secR runR binO hd
    by_cases h250:d<250
    ·simp only[if_pos h250]
     rw[if_neg (by omega)]
     have:(W++[231]++[((d:Int).toNat+msk (W++[231]).length)%256])++mk (W++[231]++[((d:Int).toNat+msk (W++[231]).length)%256]).length (runB p n.i d)=W++231::mk (W.length+1) ([d]++runB p n.i d):=by
      simp[mk]
     exact this
    ·simp only[if_neg h250]
     rw[if_pos (by omega)]
     have t1:(249+(d:Int)/250).toNat=249+d/250:=by omega
     have t2:((d:Int)%250).toNat=d%250:=by omega
     simp[mk,Nat.add_comm]
     rw[t1,t2,show 1+(W.length+1)=W.length+2 by omega,show 1+(W.length+2)=W.length+3 by omega]
     exact⟨rfl,rfl,rfl⟩
   ·rw[if_neg (by omega)]
    congr 1
    unfold emit
    rw[if_pos h3,h5]
    simp
  rw[hem]at he1
  refine⟨f1,_,[],hf1,he1,?_,fun _=>rfl,fun _=>rfl,hpv⟩
  rw[hpk,List.append_nil,List.append_nil]
end Go.Proofs.Ythnflhimcmdnbaa
namespace Go.Proofs.Ythnflhimcmdnbaa
open Go.Abs
set_option linter.unusedSimpArgs false
set_option linter.unusedVariables false
set_option maxRecDepth 20000
theorem unitL_mem{p:List UInt8}{n t:RN}{v:Nat}(h:unitR p n v=some t):∀k,v<k→(⟨v,-1,-1,if n.ph=0 then 2 else 0,t⟩:RS) ∈ unitL p n k
 | 0,hk=>by omega
 | k+1,hk=>by
  unfold unitL
  by_cases e:v=k
  ·subst e
   rw[h]
   exact List.mem_append_right _ (by simp)
  ·exact List.mem_append_left _ (unitL_mem h k (by omega))
theorem latL_mem{p:List UInt8}{n:RN}(h:n.ph=0):∀k,(⟨254,-1,-1,1,⟨n.i,0,0,0,false⟩⟩:RS) ∈ unitL p n k
 | 0=>by unfold unitL;rw[if_pos h];simp
 | k+1=>by
  unfold unitL
  exact List.mem_append_left _ (latL_mem h k)
theorem steps_tri{p:List UInt8}{n:RN}(hm:1≤n.m∧n.m≤3):stepsR p n=unitL p n 40:=by
 unfold stepsR
 rw[if_neg (by omega),if_pos (by omega)];rfl
theorem unit_mem{p:List UInt8}{n t:RN}{v:Nat}(hm:1≤n.m∧n.m≤3)(hv:v<40)(h:unitR p n v=some t):(⟨v,-1,-1,if n.ph=0 then 2 else 0,t⟩:RS) ∈ stepsR p n:=by
 rw[steps_tri hm]
 exact unitL_mem h 40 hv
theorem tri_cmp{u v w u' v' w' a a' m m':Nat}(h:1600*u+40*v+w<1600*u'+40*v'+w'):cmpS (hd (triO u v w a m)) (hd (triO u' v' w' a' m'))<0:=by
 show cmpS [(1600*u+40*v+w+1)/256,(1600*u+40*v+w+1)%256] [(1600*u'+40*v'+w'+1)/256,(1600*u'+40*v'+w'+1)%256]<0
 by_cases e:(1600*u+40*v+w+1)/256<(1600*u'+40*v'+w'+1)/256
 ·exact cmp_h0 e
 ·have:(1600*u+40*v+w+1)/256=(1600*u'+40*v'+w'+1)/256:=by omega
  rw[this,cmp_same]
  exact cmp_h0 (by omega)
theorem tri_le{p:List UInt8}{C:List Nat}(h:SolR p C){n t1 t2 t:RN}{u v w:Nat}(hn:n.ok p.length)(hm:1≤n.m∧n.m≤3)(hp:n.ph=0)(h1:unitR p n u=some t1)(h2:unitR p t1 v=some t2)(h3:unitR p t2 w=some t)(hu:u<40)(hv:v<40)(hw:w<40):Cn C n≤2+Cn C t1∧Cn C t1≤Cn C t2∧Cn C t2≤Cn C t:=by
 obtain⟨a1,a2,a3⟩:=unit_keeps rfl hn hm h1
 obtain⟨b1,b2,b3⟩:=unit_keeps rfl a1 (by omega) h2
 have l1:=cn_le h hn (unit_mem hm hu h1)
 have l2:=cn_le h a1 (unit_mem (by omega) hv h2)
 have l3:=cn_le h b1 (unit_mem (by omega) hw h3)
 simp only[hp,a3,b3,if_true]at l1 l2 l3
 simp only[Nat.zero_add,Nat.reduceMod,Nat.reduceAdd]at l2 l3
 refine⟨l1,by simpa using l2,by simpa using l3⟩
theorem ch_tri{p:List UInt8}{C:List Nat}(h:SolR p C){n:RN}(hn:n.ok p.length)(hm:1≤n.m∧n.m≤3)(hp:n.ph=0)(hf:Cn C n<1099511627776):∃o,ChO p C n o:=by
 have hne:∀{t:RN},1≤t.m→¬ endR p t:=fun h e=>by unfold endR at e;omega
 obtain⟨hx,ht,hle⟩:=cho_ok h hn hf (hne hm.1)
 have hstep:=fun {f} hm' W Pt=>encR_step h hn hf (hne hm.1) (f:=f) hm' W Pt
 have hmem:=@optA_tri p n
 have em0:∀{x W},x.w=254→emitR p n x W []=(W++[254],[]):=by
  intro x W e
  unfold emitR
  rw[if_neg (by omega),if_neg (by omega),if_pos e]
 have em1:∀{t:RN} {x W Pt},t.m=n.m→x.w<40→Pt.length≠2→emitR p t x W Pt=(W,Pt++[x.w]):=by
  intro t x W Pt e e2 e3
  unfold emitR
  rw[if_neg (by omega),if_neg (by omega),if_neg (by omega),if_neg e3]
 have em2:∀{t:RN} {x W Pt},t.m=n.m→x.w<40→Pt.length=2→emitR p t x W Pt=(W++[trR Pt x.w/256,trR Pt x.w%256],[]):=by
  intro t x W Pt e e2 e3
  unfold emitR
  rw[if_neg (by omega),if_neg (by omega),if_neg (by omega),if_pos e3]
 have hti:totR C (choR p n C)=(choR p n C).c+Cn C (choR p n C).to:=rfl
 rw[hti]at ht
 replace ht:(choR p n C).c+Cn C (choR p n C).to=Cn C n:=ht
 generalize choR p n C=x at hx ht hle hstep hti
 have hx':=hx
 rw[steps_tri hm]at hx'
 rcases unitL_cases 40 (by omega) hx' with ⟨rfl,_⟩|⟨u,t1,hu,h1,rfl⟩
 ·refine⟨latO n.i,(hmem hn hm hp).2 (.inl rfl),?_,?_,?_⟩
  ·exact ht
  ·intro o' ho' ht'
   rcases(hmem hn hm hp).1 ho' with rfl|⟨u,v,w,t,⟨t1,t2,⟨g1,g2,g3⟩,hu,hv,hw⟩,rfl⟩
   ·exact .inl rfl
   ·exfalso
    obtain⟨l1,l2,l3⟩:=tri_le h hn hm hp g1 g2 g3 hu hv hw
    obtain⟨c1,c2,c3⟩:=tri_ok hn hm hp ⟨t1,t2,⟨g1,g2,g3⟩,hu,hv,hw⟩
    have e0:totO C (triO u v w t.i (stO t))=2+0+Cn C (ndO t.i (stO t)):=rfl
    rw[e0,ndO_st c1 c3]at ht'
    have hl:=hle _ (unit_mem hm hu g1) (by
     show(if n.ph=0 then 2 else 0)+Cn C t1=Cn C n
     rw[if_pos hp];omega)
    unfold lessR at hl
    rw[if_pos (by simp only;omega),decide_eq_true (by simp only;omega)]at hl
    cases hl
  ·intro f W Pt hm2 _ hPt hpv
   obtain⟨f1,hf1,he1⟩:=hstep hm2 W Pt
   have hP:=hPt (by omega)
   subst hP
   rw[em0 rfl]at he1
   refine⟨f1,_,[],hf1,he1,?_,fun _=>rfl,fun _=>rfl,hpv⟩
   show W++[254]++packR []=(W++packR [])++[254]
   rw[show packR []=[] from rfl,List.append_nil,List.append_nil]
 ·simp only[hp,if_true]at ht
  obtain⟨a1,a2,a3⟩:=unit_keeps rfl hn hm h1
  have hf1:Cn C t1<1099511627776:=by omega
  obtain⟨hx2,ht2,hle2⟩:=cho_ok h a1 hf1 (hne (by omega))
  have hstep2:=fun {f} hm' W Pt=>encR_step h a1 hf1 (hne (by omega)) (f:=f) hm' W Pt
  have hti2:totR C (choR p t1 C)=(choR p t1 C).c+Cn C (choR p t1 C).to:=rfl
  rw[hti2]at ht2
  replace ht2:(choR p t1 C).c+Cn C (choR p t1 C).to=Cn C t1:=ht2
  generalize choR p t1 C=x2 at hx2 ht2 hle2 hstep2 hti2
  have hx2':=hx2
  rw[steps_tri (by omega)]at hx2'
  rcases unitL_cases 40 (by omega) hx2' with ⟨_,e⟩|⟨v,t2,hv,h2,rfl⟩
  ·omega
  rw[if_neg (by omega)]at ht2 hle2 hstep2
  simp only[Nat.zero_add]at ht2
  obtain⟨b1,b2,b3⟩:=unit_keeps rfl a1 (by omega) h2
  have hf2:Cn C t2<1099511627776:=by omega
  obtain⟨hx3,ht3,hle3⟩:=cho_ok h b1 hf2 (hne (by omega))
  have hstep3:=fun {f} hm' W Pt=>encR_step h b1 hf2 (hne (by omega)) (f:=f) hm' W Pt
  have hti3:totR C (choR p t2 C)=(choR p t2 C).c+Cn C (choR p t2 C).to:=rfl
  rw[hti3]at ht3
  replace ht3:(choR p t2 C).c+Cn C (choR p t2 C).to=Cn C t2:=ht3
  generalize choR p t2 C=x3 at hx3 ht3 hle3 hstep3 hti3
  have hx3':=hx3
  rw[steps_tri (by omega)]at hx3'
  rcases unitL_cases 40 (by omega) hx3' with ⟨_,e⟩|⟨w,t3,hw,h3,rfl⟩
  ·omega
  rw[if_neg (by omega)]at ht3 hle3 hstep3
  simp only[Nat.zero_add]at ht3
  clear hti hti2 hti3 hx hx' hx2 hx2' hx3 hx3'
  obtain⟨c1,c2,c3⟩:=tri_ok hn hm hp ⟨t1,t2,⟨h1,h2,h3⟩,hu,hv,hw⟩
  have hnd:=ndO_st c1 c3
  refine⟨triO u v w t3.i (stO t3),(hmem hn hm hp).2 (.inr ⟨u,v,w,t3,⟨t1,t2,⟨h1,h2,h3⟩,hu,hv,hw⟩,rfl⟩),?_,?_,?_⟩
  ·show 2+0+Cn C (ndO t3.i (stO t3))=Cn C n
   rw[hnd];omega
  ·intro o' ho' ht'
   rcases(hmem hn hm hp).1 ho' with rfl|⟨u',v',w',t',⟨t1',t2',⟨g1,g2,g3⟩,hu',hv',hw'⟩,rfl⟩
   ·refine .inr ?_
    show cmpS [(1600*u+40*v+w+1)/256,(1600*u+40*v+w+1)%256] [254]<0
    exact cmp_h0 (by omega)
   ·obtain⟨l1,l2,l3⟩:=tri_le h hn hm hp g1 g2 g3 hu' hv' hw'
    obtain⟨d1,d2,d3⟩:=tri_ok hn hm hp ⟨t1',t2',⟨g1,g2,g3⟩,hu',hv',hw'⟩
    have e0:totO C (triO u' v' w' t'.i (stO t'))=2+0+Cn C (ndO t'.i (stO t')):=rfl
    rw[e0,ndO_st d1 d3]at ht'
    have k1:=hle _ (unit_mem hm hu' g1) (by
     show(if n.ph=0 then 2 else 0)+Cn C t1'=Cn C n
     rw[if_pos hp];omega)
    rw[if_pos hp]at k1
    by_cases e1:u<u'
    ·exact .inr (tri_cmp (by omega))
    ·have e1:u'=u:=by
      refine Decidable.byContradiction fun e=>?_
      unfold lessR at k1
      rw[if_pos (by simp only;omega),decide_eq_true (by simp only;omega)]at k1
      cases k1
     subst e1
     rw[h1]at g1
     obtain rfl:=Option.some.inj g1
     have k2:=hle2 _ (unit_mem (by omega) hv' g2) (by
      show(if t1.ph=0 then 2 else 0)+Cn C t2'=Cn C t1
      rw[if_neg (by omega)];omega)
     rw[if_neg (by omega)]at k2
     by_cases e2:v<v'
     ·exact .inr (tri_cmp (by omega))
     ·have e2:v'=v:=by
       refine Decidable.byContradiction fun e=>?_
       unfold lessR at k2
       rw[if_pos (by simp only;omega),decide_eq_true (by simp only;omega)]at k2
       cases k2
      subst e2
      rw[h2]at g2
      obtain rfl:=Option.some.inj g2
      have k3:=hle3 _ (unit_mem (by omega) hw' g3) (by
       show(if t2.ph=0 then 2 else 0)+Cn C t'=Cn C t2
       rw[if_neg (by omega)];omega)
      rw[if_neg (by omega)]at k3
      by_cases e3:w<w'
      ·exact .inr (tri_cmp (by omega))
      ·have e3:w'=w:=by
        refine Decidable.byContradiction fun e=>?_
        unfold lessR at k3
        rw[if_pos (by simp only;omega),decide_eq_true (by simp only;omega)]at k3
        cases k3
       subst e3
       rw[h3]at g3
       obtain rfl:=Option.some.inj g3
       exact .inl rfl
  ·intro f W Pt hm2 _ hPt hpv
   obtain⟨f1,hg1,he1⟩:=hstep hm2 W Pt
   have hP:=hPt (by omega)
   subst hP
   simp only[hp,if_true]at hg1 he1
   rw[em1 rfl (by simp only;omega) (by simp)]at he1
   obtain⟨f2,hg2,he2⟩:=hstep2 hg1 W [u]
   simp only at hg2 he2
   rw[em1 a2 (by simp only;omega) (by simp)]at he2
   obtain⟨f3,hg3,he3⟩:=hstep3 hg2 W [u,v]
   simp only at hg3 he3
   rw[em2 (by omega) (by simp only;omega) rfl]at he3
   have hnd':ndO (triO u v w t3.i (stO t3)).nx (triO u v w t3.i (stO t3)).md=t3:=hnd
   rw[hnd']
   refine⟨f3,_,[],hg3,he1.trans (he2.trans he3),?_,fun _=>rfl,fun _=>rfl,by simp⟩
   show W++[(1600*u+40*v+w+1)/256,(1600*u+40*v+w+1)%256]++packR []=(W++packR [])++[(1600*u+40*v+w+1)/256,(1600*u+40*v+w+1)%256]
   rw[show packR []=[] from rfl,List.append_nil,List.append_nil]
end Go.Proofs.Ythnflhimcmdnbaa
