/- Lemmas. -/
import Derived.Test.YtgpolmomghejoaaDoorE30
set_option linter.unusedVariables false
set_option linter.unusedSimpArgs false
set_option linter.unusedSectionVars false
namespace Go.Proofs.YtgpolmomghejoaaDoor
open Go.Abs
def VS(y:Nat×Nat):Prop:=y.2=0∧y.1<4∨y.2=1∧y.1<3∨y.2=2∧y.1=1
theorem Eh{s:Nat×Nat}{v:Nat}(h:VS s){c:Int}{a b:Nat}(e:stp s.1 s.2 v=some (c,a,b)):VS (a,b):=by
 obtain⟨x,y⟩:=s;simp only[VS]at h e ⊢;unfold stp at e
 (repeat' split at e)<;>first|(cases e;done)|(simp only[Option.some.injEq,Prod.mk.injEq]at e;omega)
theorem uC{p:List UInt8}{s t:Nat×Nat}{v i m:Nat}(h:VS s)(e:tkS p s v i=some (t,m)):VS t:=by
 unfold tkS at e;split at e
 ·cases e
 ·rename_i c x y q
  have:=Eh h q;split at e
  ·injection e with e;injection e with e1 e2;rw[←e1];exact this
  ·split at e
   ·injection e with e;injection e with e1 e2;rw[←e1];exact this
   ·cases e
theorem Bt{s:Nat}(h:s<8):VS (c8 s):=by unfold c8 VS;split<;>(try split)<;>simp<;>omega
theorem vB{y:Nat×Nat}(h:VS y):nO y<8∧c8 (nO y)=y:=by
 obtain⟨a,b⟩:=y;rcases h with ⟨h1,h2⟩|⟨h1,h2⟩|⟨h1,h2⟩<;>simp only at h1 h2<;>subst h1
 ·simp only[nO]
  have:a=0∨a=1∨a=2∨a=3:=by omega
  rcases this with rfl|rfl|rfl|rfl<;>decide
 ·have:a=0∨a=1∨a=2:=by omega
  rcases this with rfl|rfl|rfl<;>decide
 ·subst h2;decide
theorem nX(p:List UInt8)(a:Nat)(s:Nat×Nat)(v i:Nat):tkS (p.drop a) s v i=tkS p s v (a+i):=by
 unfold tkS;have e:(p.drop a).getD i 0=p.getD (a+i) 0:=by simp[List.getD_eq_getElem?_getD,List.getElem?_drop]
 have e2:(i<p.length-a)=(a+i<p.length):=propext (by omega);rw[e];cases stp s.1 s.2 v with
 | none=>rfl
 | some q=>obtain⟨c,x,y⟩:=q;simp only[List.length_drop,e2]
theorem uq{p q:List UInt8}{s x:Nat×Nat}{v i j:Nat}(h:tkS p s v i=some (x,0)):tkS q s v j=some (x,0):=by
 unfold tkS at h ⊢;split at h
 ·cases h
 ·split at h
  ·rename_i c x y q h0
   rw[if_pos h0];exact h
  ·split at h
   ·injection h with h;injection h with _ h;cases h
   ·cases h
theorem kT{l:List UInt8}{s c k t:Nat}:eE l s c=some (k,t)↔∃x n y m,tkS l (c8 s) (c/30) 0=some (x,n)∧tkS l x (c%30) n=some (y,m)∧k=n+m∧t=nO y:=by
 unfold eE;simp only[prS,show ¬ (0=1) by decide,if_false,if_true];constructor
 ·intro h
  rw[Option.map_eq_some_iff]at h;obtain⟨⟨z,w⟩,h,e⟩:=h;injection e with e1 e2;simp only at e1 e2;split at h
  ·cases h
  ·rename_i x n q
   split at q
   ·cases q
   ·rename_i x2 n2 q2
    injection q with q;injection q with q3 q4;rw[Nat.zero_add]at q4;subst q3 q4;split at h
    ·cases h
    ·rename_i y m q5
     injection h with h;injection h with h1 h2;subst h1 h2;exact⟨_,_,_,_,q2,q5,e1.symm,e2.symm⟩
 ·rintro⟨x,n,y,m,h1,h2,rfl,rfl⟩
  simp only[h1,Nat.zero_add,h2,Option.map_some]
theorem pM{p q:List UInt8}{s c t:Nat}(h:eE p s c=some (0,t)):eE q s c=some (0,t):=by
 obtain⟨x,n,y,m,h1,h2,h3,h4⟩:=kT.1 h;have hn:n=0:=by omega
 have hm:m=0:=by omega
 subst hn hm;exact kT.2 ⟨x,0,y,0,uq h1,uq h2,rfl,h4⟩
theorem kr{i s:Nat}(h:s<8):ef i s=(0,i,3*(c8 s).1+(c8 s).2,0):=by unfold ef;rw[if_pos h]
theorem zg{i:Nat}{y:Nat×Nat}(h:VS y):ef i (nO y)=(0,i,3*y.1+y.2,0):=by
 rw[kr (vB h).1,(vB h).2]
theorem u7{s:Nat}(h:s<8):((3*(c8 s).1+(c8 s).2)/3,(3*(c8 s).1+(c8 s).2)%3)=c8 s:=by
 have:=(fO h).2;refine Prod.ext ?_ ?_<;>simp only<;>omega
theorem rE{p:List UInt8}{a s c k t:Nat}(hs:s<8)(hc:c<900)(h:eE (p.drop a) s c=some (k,t)):t<8∧∃z,(c,k,z) ∈ bq p a (3*(c8 s).1+(c8 s).2)∧ef (a+k) t=(0,a+k,z,0):=by
 obtain⟨x,n,y,m,h1,h2,rfl,rfl⟩:=kT.1 h;rw[nX,Nat.add_zero]at h1;rw[nX]at h2;have vx:=uC (Bt hs) h1;have vy:=uC vx h2;refine⟨(vB vy).1,3*y.1+y.2,?_,zg vy⟩;have:=Co (p:=p) (i:=a) (a:=3*(c8 s).1+(c8 s).2) (u:=c/30) (v:=c%30) (by omega) (by omega) (by rw[u7 hs];exact h1) h2;rwa [Nat.div_add_mod]at this
theorem zK{p:List UInt8}{a s:Nat}(hs:s<8){x:Nat×Nat×Nat}(h:x ∈ bq p a (3*(c8 s).1+(c8 s).2)):x.1<900∧∃t,t<8∧eE (p.drop a) s x.1=some (x.2.1,t)∧ef (a+x.2.1) t=(0,a+x.2.1,x.2.2,0):=by
 simp only[bq,List.mem_flatMap,List.mem_range]at h;obtain⟨u,hu,h⟩:=h;unfold lp at h;split at h
 ·simp at h
 ·rename_i y n e1
  rw[u7 hs]at e1;simp only[List.mem_flatMap,List.mem_range]at h;obtain⟨v,hv,h⟩:=h;unfold jl at h;split at h
  ·simp at h
  ·rename_i z m e2
   simp only[List.mem_cons,List.not_mem_nil,or_false]at h;subst h;have vy:=uC (Bt hs) e1;have vz:=uC vy e2;refine⟨by simp only;omega,nO z,(vB vz).1,kT.2 ⟨y,n,z,m,?_,?_,rfl,rfl⟩,zg vz⟩
   ·rw[nX,Nat.add_zero,show(30*u+v)/30=u by omega];exact e1
   ·rw[nX,show(30*u+v)%30=v by omega];exact e2
theorem rF{s t:Nat}:∀{m:Nat},0≤mvI s m t→∃c,c<m∧mvI s m t=(c:Nat)∧eE [] s c=some (0,t)
 | 0,h=>by simp[mvI]at h
 | m+1,h=>by
  simp only[mvI]at h ⊢;split at h
  ·rename_i e
   rw[if_pos e];exact⟨m,by omega,rfl,e.2⟩
  ·rename_i e
   rw[if_neg e];obtain⟨c,h1,h2,h3⟩:=rF h;exact⟨c,by omega,h2,h3⟩
theorem vA{s t c:Nat}(h:eE [] s c=some (0,t)):∀{m:Nat},c<m→0≤mvI s m t∧mvI s m t≤(c:Nat)
 | 0,hc=>by omega
 | m+1,hc=>by
  simp only[mvI];by_cases e:c=m
  ·subst e
   have:=oS s c t;by_cases hn:mvI s c t<0
   ·rw[if_pos ⟨hn,h⟩];omega
   ·rw[if_neg (fun q=>hn q.1)];omega
  ·have:=vA h (show c<m by omega)
   rw[if_neg (fun q=>by omega)];exact this
theorem mI(p:List UInt8)(a s:Nat):ik p (ef a s) a:=by
 unfold ef;split
 ·exact Fx p a _ 0
 ·exact Gh p a 0 0
theorem qi{p:List UInt8}{a s:Nat}:nb p (ef a s)↔a=p.length:=by
 unfold ef;split<;>exact Iff.rfl
theorem xy{p:List UInt8}{a s t:Nat}(hs:s<9)(ht:t<8)(h:0≤mvF s t):((mvF s t).toNat,ef a t) ∈ bK p (ef a s):=by
 unfold mvF at h ⊢;by_cases e:t=0∧mvI s (if s<8 then 900 else 0) 0<0
 ·rw[if_pos e,e.1]
  exact mI p a s _ (by simp[dE,ef,c8])
 ·rw[if_neg e]at h ⊢
  by_cases h8:s<8
  ·rw[if_pos h8]at h ⊢
   obtain⟨c,h1,h2,h3⟩:=rF h;rw[h2,Int.toNat_natCast];obtain⟨-,z,h4,h5⟩:=rE (p:=p) (a:=a) h8 h1 (pM h3);rw[Nat.add_zero]at h5;rw[kr h8,h5];simp only[bK,List.mem_append,List.mem_map];exact .inl ⟨_,h4,by simp⟩
  ·rw[if_neg h8]at h
   simp[mvI]at h
theorem oC{s:Nat}:0≤mvF s 0∧mvF s 0≤900:=by
 unfold mvF;have h9:(if s<8 then 900 else 0)≤900:=by split<;>decide
 generalize (if s<8 then 900 else 0)=m at *;have:=oS s m 0;by_cases e:mvI s m 0<0
 ·rw[if_pos ⟨rfl,e⟩];decide
 ·rw[if_neg (fun q=>e q.2)];omega
theorem vM{s c t:Nat}(hs:s<8)(hc:c<900)(h:eE [] s c=some (0,t)):0≤mvF s t∧mvF s t≤(c:Nat):=by
 have:=vA h hc;unfold mvF;rw[if_pos hs,if_neg (fun e=>by obtain⟨rfl,e⟩:=e;omega)];exact this
def j3(p:List UInt8)(a:Nat)(R:Nat→Nat→List Nat)(s:Nat)(x:List Nat):Prop:=(RunC p a p.length R x∨DigC p a p.length R x)∨s<8∧(PairC p a s 900 R x∨x=913::byA p a::R (a+1) (c8 s).1)
def lM(p:List UInt8)(a:Nat)(R:Nat→Nat→List Nat):Nat→Nat→List Nat→Prop
 | 0,s,x=>j3 p a R s x
 | r+1,s,x=>∃t y,t<8∧0≤mvF s t∧lM p a R r t y∧x=(mvF s t).toNat::y
theorem B8{p:List UInt8}{a s:Nat}(hs:s<8)(ha:a<p.length){v:List Nat}(h:Acc p (ef (a+1) (c8 s).1) v):Acc p (ef a s) (913::byA p a::v):=by
 have h4:=(fO hs).1;rw[kr (by omega),Bu h4]at h;rw[kr hs];refine⟨(1,a,3*(c8 s).1,0),?_,⟨(0,a+1,3*(c8 s).1+0,0),by simp[bK],h⟩⟩;simp only[bK,List.mem_append];refine .inr (.inl ?_);rw[if_pos ha,show(3*(c8 s).1+(c8 s).2)/3*3=3*(c8 s).1 by have:=(fO hs).2;omega];simp
theorem AJ{p:List UInt8}{a s:Nat}{R:Nat→Nat→List Nat}(hR:RB p a R)(ha:a<p.length)(hs:s<9){x:List Nat}(h:j3 p a R s x):Acc p (ef a s) x:=by
 have h8:∀n,1≤n→a+n≤p.length→Acc p (6,a+n,0,0) (R (a+n) 8):=fun n h1 h2=>(hR (a+n) 8 (by omega) h2 (by decide)).1;rcases h with (⟨n,h1,-,h3,rfl⟩|⟨n,h1,-,h3,h4,rfl⟩)|⟨h,⟨c,n,t,h1,h2,h3,rfl⟩|rfl⟩
 ·have hl:((p.drop a).take n).length=n:=by simp;omega
  rw[qX,hl];split
  ·rename_i h0
   exact⟨(2,a,0,0),mI p a s _ (by simp[dE]),qt (.inl rfl) n n (Nat.le_refl _) h3 (fun _=>h0) (fun e=>by simp at e) (h8 n h1 h3)⟩
  ·rename_i h0
   exact⟨(3,a,0,0),mI p a s _ (by simp[dE]),qt (.inr rfl) n n (Nat.le_refl _) h3 (fun e=>by simp at e) (fun _=>h0) (h8 n h1 h3)⟩
 ·exact⟨(5,a,0,0),mI p a s _ (by simp[dE]),uN n n (Nat.le_refl _) h3 (List.all_eq_true.1 h4) (h8 n h1 h3)⟩
 ·obtain⟨ht,z,q1,q2⟩:=rE h h1 h2
  have hn:=(lK h h1 h2).2.1;rw[List.length_drop]at hn;have:=(hR (a+n) t (by omega) (by omega) (by omega)).1;rw[q2]at this;rw[kr h];refine⟨_,?_,this⟩;simp only[bK,List.mem_append,List.mem_map];exact .inl ⟨_,q1,rfl⟩
 ·exact B8 h ha (hR (a+1) _ (by omega) (by omega) (by have:=(fO h).1;omega)).1
theorem n9{p:List UInt8}{a:Nat}{R:Nat→Nat→List Nat}(hR:RB p a R)(ha:a<p.length):∀(L:Nat) {s:Nat} {w:List Nat},s<9→w.length≤L→Acc p (ef a s) w→∃r x,lM p a R r s x∧sle x w
 | L,s,[],hs,hL,h=>by
  have:=qi.1 (show nb p (ef a s) from h);omega
 | 0,s,c::w,hs,hL,h=>by simp at hL
 | L+1,s,c::w,hs,hL,h=>by
  have hLw:w.length≤L:=by simpa using hL
  obtain⟨t',hm,h⟩:=h;have hcmd:(c,t') ∈ dE a→∃r x,lM p a R r s x∧sle x (c::w):=by
   intro hc;have hrun:∀n v,a+n≤p.length→Acc p (6,a+n,0,0) v→(n=0→w=v)→(0<n→∃x,j3 p a R s x∧sle x (c::w))→∃r x,lM p a R r s x∧sle x (c::w):=by
    intro n v h1 h2 h3 h4;by_cases h0:n=0
    ·subst h0
     rw[h3 rfl]at hLw ⊢;obtain⟨r,x,q1,q2⟩:=n9 hR ha L (s:=s) (w:=v) hs hLw (BM h2 (mI p a s) (fun e=>qi.2 e));refine⟨r,x,q1,fm q2 (.inl (by simp))⟩
    ·obtain⟨x,q1,q2⟩:=h4 (by omega)
     exact⟨0,x,q1,q2⟩
   simp only[dE,List.mem_cons,List.not_mem_nil,or_false,Prod.mk.injEq]at hc;rcases hc with ⟨rfl,rfl⟩|⟨rfl,rfl⟩|⟨rfl,rfl⟩|⟨rfl,rfl⟩
   ·obtain⟨r,x,q1,q2⟩:=n9 hR ha L (s:=0) (w:=w) (by decide) hLw h
    have:=oC (s:=s);exact⟨r+1,_,⟨0,x,by decide,this.1,q1,rfl⟩,rX (by omega) q2⟩
   ·obtain⟨n,v,q1,-,q3,rfl,q5⟩:=nr (.inr rfl) w.length w (Nat.le_refl _) (Nat.le_of_lt ha) h
    have q3:=q3 rfl;refine hrun n v q1 q5 (fun e=>by subst e;simp at q3) fun h0=>⟨_,.inl (.inl ⟨n,h0,by omega,q1,rfl⟩),?_⟩;rw[qX,show((p.drop a).take n).length=n by simp;omega,if_neg q3];exact jX _ ((hR (a+n) 8 (by omega) q1 (by decide)).2 v q5)
   ·obtain⟨n,v,q1,q2,rfl,q5⟩:=rj w.length w (Nat.le_refl _) (Nat.le_of_lt ha) h
    refine hrun n v q1 q5 (fun e=>by subst e;simp[eJ]) fun h0=>⟨_,.inl (.inr ⟨n,h0,by omega,q1,List.all_eq_true.2 q2,rfl⟩),?_⟩;exact jX (902::_) ((hR (a+n) 8 (by omega) q1 (by decide)).2 v q5)
   ·obtain⟨n,v,q1,q2,-,rfl,q5⟩:=nr (.inl rfl) w.length w (Nat.le_refl _) (Nat.le_of_lt ha) h
    have q2:=q2 rfl;refine hrun n v q1 q5 (fun e=>by subst e;simp[iC]) fun h0=>⟨_,.inl (.inl ⟨n,h0,by omega,q1,rfl⟩),?_⟩;rw[qX,show((p.drop a).take n).length=n by simp;omega,if_pos q2];exact jX _ ((hR (a+n) 8 (by omega) q1 (by decide)).2 v q5)
  by_cases h8:s<8
  ·rw[kr h8]at hm
   simp only[bK,List.mem_append,List.mem_map]at hm;rcases hm with ⟨y,hy,e⟩|hm|hm
   ·injection e with e1 e2
    subst e1 e2;obtain⟨hc,t,ht,hp,hth⟩:=zK h8 hy;rw[←hth]at h;by_cases hk:y.2.1=0
    ·rw[hk]at hp h
     rw[Nat.add_zero]at h;obtain⟨r,x,q1,q2⟩:=n9 hR ha L (s:=t) (w:=w) (by omega) hLw h;have:=vM h8 hc (pM (q:=[]) hp);exact⟨r+1,_,⟨t,x,ht,this.1,q1,rfl⟩,rX (by omega) q2⟩
    ·have hn:=(lK h8 hc hp).2.1
     rw[List.length_drop]at hn;exact⟨0,_,.inr ⟨h8,.inl ⟨y.1,y.2.1,t,hc,hp,by omega,rfl⟩⟩,jX [y.1] ((hR (a+y.2.1) t (by omega) (by omega) (by omega)).2 w h)⟩
   ·rw[if_pos ha]at hm
    simp only[List.mem_cons,List.not_mem_nil,or_false,Prod.mk.injEq]at hm;obtain⟨rfl,rfl⟩:=hm;cases w with
    | nil=>exact h.elim
    | cons z w=>
     obtain⟨t',hm,h⟩:=h;simp only[bK,List.mem_cons,List.not_mem_nil,or_false,Prod.mk.injEq]at hm;obtain⟨rfl,rfl⟩:=hm;have h4:=(fO h8).1;have e:ef (a+1) (c8 s).1=(0,a+1,(3*(c8 s).1+(c8 s).2)/3*3,0):=by
      rw[kr (by omega),Bu h4,show(3*(c8 s).1+(c8 s).2)/3*3=3*(c8 s).1+0 by have:=(fO h8).2;omega]
     rw[←e]at h;exact⟨0,_,.inr ⟨h8,.inr rfl⟩,jX [913,byA p a] ((hR (a+1) _ (by omega) (by omega) (by omega)).2 w h)⟩
   ·exact hcmd hm
  ·have e:ef a s=(6,a,0,0):=by unfold ef;rw[if_neg h8]
   rw[e]at hm;exact hcmd hm
theorem pn{p:List UInt8}{a:Nat}{R:Nat→Nat→List Nat}:∀{r s:Nat} {x:List Nat},lM p a R r s x→∃t y,(r=0∧t=s∨t<8)∧j3 p a R t y∧x.length=r+y.length
 | 0,s,x,h=>⟨s,x,.inl ⟨rfl,rfl⟩,h,by omega⟩
 | r+1,s,x,h=>by
  obtain⟨t,y,h1,h2,h3,rfl⟩:=h;obtain⟨u,z,q1,q2,q3⟩:=pn h3;refine⟨u,z,.inr ?_,q2,by simp;omega⟩;rcases q1 with ⟨-,rfl⟩|q1<;>omega
theorem Be:∀t,t<8→0≤mvF 0 t∨0≤mvF 0 2∧0≤mvF 2 t:=by
 have w:∀s c t,s<8→c<900→eE [] s c=some (0,t)→0≤mvF s t:=fun s c t h1 h2 h3=>(vM h1 h2 h3).1;intro t ht;have:t=0∨t=1∨t=2∨t=3∨t=4∨t=5∨t=6∨t=7:=by omega
 rcases this with rfl|rfl|rfl|rfl|rfl|rfl|rfl|rfl
 ·exact .inl oC.1
 ·exact .inl (w 0 867 1 (by decide) (by decide) (by decide))
 ·exact .inl (w 0 838 2 (by decide) (by decide) (by decide))
 ·exact .inl (w 0 865 3 (by decide) (by decide) (by decide))
 ·exact .inr ⟨w 0 838 2 (by decide) (by decide) (by decide),w 2 869 4 (by decide) (by decide) (by decide)⟩
 ·exact .inl (w 0 839 5 (by decide) (by decide) (by decide))
 ·exact .inl (w 0 869 6 (by decide) (by decide) (by decide))
 ·exact .inl (w 0 837 7 (by decide) (by decide) (by decide))
theorem BW{p:List UInt8}{a:Nat}{R:Nat→Nat→List Nat}{r s:Nat}{x:List Nat}(h:lM p a R r s x):∃r' x',r'≤8∧lM p a R r' s x'∧sle x' x:=by
 by_cases hr:r≤8
 ·exact⟨r,x,hr,h,oR _⟩
 ·obtain⟨t,y,h1,h2,h3⟩:=pn h
  have ht:t<8:=by rcases h1 with ⟨h1,-⟩|h1<;>omega
  have h0:=(oC (s:=s)).1;rcases Be t ht with q|⟨q1,q2⟩
  ·exact⟨2,_,by decide,⟨0,_,by decide,h0,⟨t,y,ht,q,h2,rfl⟩,rfl⟩,.inl (by simp;omega)⟩
  ·exact⟨3,_,by decide,⟨0,_,by decide,h0,⟨2,_,by decide,q1,⟨t,y,ht,q2,h2,rfl⟩,rfl⟩,rfl⟩,.inl (by simp;omega)⟩
def RndC(p:List UInt8)(a r:Nat)(R:Nat→Nat→List Nat)(s:Nat)(u:List Nat):Prop:=Acc p (ef a s) u∧∀r' x,r'≤r→lM p a R r' s x→sle u x
theorem RndC.best{p:List UInt8}{a:Nat}{R:Nat→Nat→List Nat}(hR:RB p a R)(ha:a<p.length){s:Nat}(hs:s<9){u:List Nat}(h:RndC p a 8 R s u):BestIn (Acc p (ef a s)) u:=by
 refine⟨h.1,fun w hw=>?_⟩;obtain⟨r,x,h1,h2⟩:=n9 hR ha w.length hs (Nat.le_refl _) hw;obtain⟨r',x',h3,h4,h5⟩:=BW h1;exact fm (h.2 r' x' h3 h4) (fm h5 h2)
set_option maxRecDepth 20000
theorem RndC.dec{p:List UInt8}{a r s:Nat}{R:Nat→Nat→List Nat}{u x:List Nat}(h:RndC p a r R s u)(hx:Acc p (ef a s) x)(hle:sle x u):RndC p a r R s x:=
 ⟨hx,fun r' y h1 h2=>fm hle (h.2 r' y h1 h2)⟩
theorem RndC.up{p:List UInt8}{a r s:Nat}{R:Nat→Nat→List Nat}{u:List Nat}(h:RndC p a r R s u)(hn:∀t,t<8→0≤mvF s t→∀y,lM p a R r t y→sle u ((mvF s t).toNat::y)):RndC p a (r+1) R s u:=by
 refine⟨h.1,fun r' y h1 h2=>?_⟩;by_cases e:r'=r+1
 ·subst e
  obtain⟨t,z,q1,q2,q3,rfl⟩:=h2;exact hn t q1 q2 z q3
 ·exact h.2 r' y (by omega) h2
theorem RndC.zero{p:List UInt8}{a s:Nat}{R:Nat→Nat→List Nat}{u:List Nat}(hR:RB p a R)(ha:a<p.length)(hs:s<9)(h:BestIn (j3 p a R s) u):RndC p a 0 R s u:=by
 refine⟨AJ hR ha hs h.1,fun r' y h1 h2=>?_⟩;have:r'=0:=by omega
 subst this;exact h.2 y h2
theorem RndC.ok{p:List UInt8}{a r s:Nat}{R:Nat→Nat→List Nat}{u:List Nat}{T:Tab}(hl:∀i,i≤p.length→LowA p T i)(hO:OkR p.length a R)(ha:a<p.length)(hs:s<9)(h:RndC p a r R s u):u.length≤150000∧∀x ∈ u,x≤928:=by
 refine⟨?_,mj hl (zZ (Nat.le_of_lt ha) hs) h.1⟩;have key:∃x,j3 p a R s x∧x.length≤150000:=by
  have h8:=hO (a+1) 8 (by omega) (by omega) (by decide);refine⟨_,.inl (.inl ⟨1,Nat.le_refl _,by omega,by omega,rfl⟩),?_⟩;have:=oT ((p.drop a).take 1);have h1:((p.drop a).take 1).length≤1:=by simp;omega
  rw[List.length_append];omega
 obtain⟨x,h1,h2⟩:=key;rcases h.2 0 x (Nat.zero_le _) h1 with q|⟨q,-⟩<;>omega
def RG(p:List UInt8)(c:Nat)(R:Nat→Nat→List Nat):Prop:=∀j s,c≤j→j≤p.length→s<9→BestIn (Acc p (ef j s)) (R j s)
theorem RG.end{p:List UInt8}{R:Nat→Nat→List Nat}(h:∀s,s<9→R p.length s=[]):RG p p.length R:=by
 intro j s h1 h2 h3;have:j=p.length:=by omega
 subst this;rw[h s h3];refine⟨qi.2 rfl,fun w _=>?_⟩;cases w with
 | nil=>exact .inr ⟨rfl,.inl rfl⟩
 | cons x w=>exact .inl (by simp)
theorem Ah{p:List UInt8}{a s:Nat}{R:Nat→Nat→List Nat}(hs:s<8)(x:List Nat):(((RunC p a p.length R x∨DigC p a p.length R x)∨PairC p a s 900 R x)∨x=913::byA p a::R (a+1) (c8 s).1)↔j3 p a R s x:=by
 unfold j3;constructor
 ·rintro((h|h)|h)
  ·exact .inl h
  ·exact .inr ⟨hs,.inl h⟩
  ·exact .inr ⟨hs,.inr h⟩
 ·rintro(h|⟨-,h|h⟩)
  ·exact .inl (.inl h)
  ·exact .inl (.inr h)
  ·exact .inr h
theorem C9{p:List UInt8}{a:Nat}{R:Nat→Nat→List Nat}(x:List Nat):(RunC p a p.length R x∨DigC p a p.length R x)↔j3 p a R 8 x:=by
 unfold j3;constructor
 ·exact .inl
 ·rintro(h|⟨h,-⟩)
  ·exact h
  ·omega
theorem FH{lo:Nat}{H1 H':Heap}{w:Value}{b n:Nat}{l:List Nat}(hb:H1.length≤b)(ho:Own lo 1 H' w b (l.map gF))(hl:l.length=n+1)
  (hr:∀t,t<n+1→H1.length≤l.getD t 0∧l.getD t 0<H'.length∧H'.get (l.getD t 0)=some (List.replicate 9 (Value.slice none 0 0))∧l.getD t 0≠b) (hi:∀t u,t<u→u<n+1→l.getD t 0<l.getD u 0) :
  w=.slice (some ⟨b,0,some 1⟩) (n+1) (n+1)∧BestH H1.length H'.length H' b n (fun t=>l.getD t 0) (fun _ _=>[]):=by
 obtain⟨-,⟨-,h0⟩|⟨m,h1,h2,rfl,h4⟩⟩:=ho
 ·have:l=[]:=by simpa using h0
  subst this;simp at hl
 have hm:m=n+1:=by rw[←hl];simpa using h2
 subst hm;refine⟨rfl,⟨l.map gF,h4,by rw[List.length_map];exact hl,fun j hj=>?_⟩,⟨hb,Heap.get_lt h4⟩,fun j hj=>?_,fun i j h1 h2 e=>?_,fun j hj=>?_⟩
 ·show _=some (gF (l.getD j 0))
  rw[List.getElem?_map,List.getD_eq_getElem?_getD,List.getElem?_eq_getElem (by omega)];rfl
 ·obtain⟨q1,q2,q3,q4⟩:=hr j (by omega)
  exact⟨q1,q2,q4⟩
 ·rcases Nat.lt_trichotomy i j with h|h|h
  ·have:=hi i j h (by omega);omega
  ·exact h
  ·have:=hi j i h (by omega);omega
 ·obtain⟨q1,q2,q3,q4⟩:=hr j (by omega)
  exact⟨_,q3,by simp,fun s hs=>⟨.slice none 0 0,by rw[List.getElem?_replicate,if_pos hs],Fz.nil⟩⟩
theorem jS{R:Nat→Nat→List Nat}{a s j t:Nat}{l:List Nat}(h:j≠a∨t≠s):j4 R a s l j t=R j t:=by
 unfold j4;rw[if_neg (fun e=>by rcases h with h|h<;>simp_all)]
theorem n5{R:Nat→Nat→List Nat}{a s:Nat}{l:List Nat}:j4 R a s l a s=l:=by unfold j4;rw[if_pos ⟨rfl,rfl⟩]
theorem FB(s t:Nat):mvF s t≤900:=by
 unfold mvF;have h9:(if s<8 then 900 else 0)≤900:=by split<;>decide
 generalize (if s<8 then 900 else 0)=m at *;have:=oS s m t;by_cases e:t=0∧mvI s m 0<0
 ·rw[if_pos e];decide
 ·rw[if_neg e];omega
theorem xe{lo:Nat}{H:Heap}{v:Value}{p:List UInt8}{T:Tab}(hlow:∀i,i≤p.length→LowA p T i)(hlo:lo≤H.length)(hv:Sl bZ H v p)(hp:p.length≤4096) :
  Ev cp lo 21 [v] H (fun r H'=>Ext H H'∧∃u ws,r=.tuple #[u,.int .i64 0]∧SlN H' u ws∧BestIn (Acc p (0,0,0,0)) ws):=by
 have hv0:=hv;obtain⟨ad,c0,rfl⟩:=hv.len;replace hlow:False∨_:=.inr hlow;refine Hz ?_;unfold C8 y5;simp only[kB,aA];repeat' ((first|refine bx ?_|refine bz rfl ?_);(try simp only[aA]))
 refine rh (fun h=>?_) (fun h=>?_)
 ·exfalso;simp only[decide_eq_true_eq]at h;omega
 clear h;(try simp only[aA]);repeat' ((first|refine bx ?_|refine bz rfl ?_);(try simp only[aA]))
 refine ke ?_;refine aC (EU hlo) ?_;rintro mv H1 ⟨hx1,hmv⟩;have hl1:=hx1.1;(try simp only[aA]);repeat' ((first|refine bx ?_|refine bz rfl ?_);(try simp only[aA]))
 refine ai (fun i S H'=>Ext H1 H'∧∃(w:Value) (b:Nat) (l:List Nat),H1.length≤b∧Own lo 1 H' w b (l.map gF)∧l.length=i∧(∀t,t<i→H1.length≤l.getD t 0∧l.getD t 0<H'.length∧H'.get (l.getD t 0)=some (List.replicate 9 (Value.slice none 0 0))∧l.getD t 0≠b∨False)∧(∀t u,t<u→u<i→l.getD t 0<l.getD u 0)∧∃(z:Nat→Value),S=[.slice ad p.length c0,z 1,z 2,mv,w,.int .i64 (i:Nat),z 6,z 7,z 8,z 9,z 10,z 11,z 12,z 13,z 14,z 15,z 16,z 17,z 18,z 19,z 20,z 21,z 22,z 23,z 24,z 25,z 26,z 27,z 28,z 29]) (p.length+1) ?_ ?_ ?_ ?_
 ·exact⟨Ext.refl _,_,H1.length,[],Nat.le_refl _,Own.nil (by omega),rfl,fun t ht=>by omega,fun t u _ hu=>by omega,aE rfl⟩
 ·rintro i S H' hi ⟨-,w,b,l,-,-,-,-,-,z,rfl⟩
  exact⟨_,fT,by simp;omega⟩
 ·rintro i S H2 hi ⟨hx2,w,b,l,hb,ho,hl,hrows,hinc,z,rfl⟩
  have hl2:=hx2.1;replace hl:False∨_:=.inr hl;obtain⟨aw,nw,rfl,hnw,-⟩:=ho.len (by decide);have hnb:nw≤5000:=by simp at hnw;have:=hl.resolve_left id;omega
  replace hinc:False∨_:=.inr hinc;clear hnw;(try simp only[aA]);repeat' ((first|refine bx ?_|refine bz rfl ?_);(try simp only[aA]))
  refine ai (fun k S H'=>Ext H2 H'∧∃(u:Value) (x:Nat),H2.length≤x∧Own lo 1 H' u x (List.replicate k (Value.slice none 0 0))∧∃(z:Nat→Value),S=[.slice ad p.length c0,z 1,z 2,mv,.slice aw nw nw,.int .i64 (i:Nat),u,.int .i64 (k:Nat),z 8,z 9,z 10,z 11,z 12,z 13,z 14,z 15,z 16,z 17,z 18,z 19,z 20,z 21,z 22,z 23,z 24,z 25,z 26,z 27,z 28,z 29]) 9 ?_ ?_ ?_ ?_
  ·exact⟨Ext.refl _,_,H2.length,Nat.le_refl _,Own.nil (by omega),aE rfl⟩
  ·rintro k S H' hk ⟨-,u,x,-,-,z,rfl⟩
   exact⟨_,fT,by simp;omega⟩
  ·rintro k S H3 hk ⟨hx3,u,x,hxx,hou,z,rfl⟩
   have hl3:=hx3.1;have hxd:=Ext.push H3 (some [Value.slice none 0 0]);have hou2:=hou.mono hxd;obtain⟨au,nu,rfl,-,-⟩:=hou.len (by decide);(try simp only[aA]);(repeat' ((first|refine bx ?_|refine bz rfl ?_);(try simp only[aA])));refine ke ?_;refine eG (c':=[Value.slice none 0 0]) (c:=[Value.slice none 0 0]) hou2 (by simp;omega) (by decide) (by decide) (by simp;omega) aH (by simp) rfl rfl ?_;intro v' H4 ho4 hk4 hl4;have hx4:=hk4.ext (hx3.trans hxd) hxx;rw[←List.replicate_succ']at ho4;clear hou hou2;simp only[List.length_append,List.length_cons,List.length_nil]at ho4 hl4;(try simp only[aA]);(repeat' ((first|refine bx ?_|refine bz rfl ?_);(try simp only[aA])));exact⟨hx4,v',_,by omega,ho4,aE (by first|rfl|(simp only[Int.natCast_add,Int.natCast_one];rfl)|simp only[Int.natCast_add,Int.natCast_one])⟩
  rintro S H3 ⟨hx3,u,x,hxx,hou,z,rfl⟩;have hl3:=hx3.1;obtain⟨-,⟨-,h0⟩|⟨n,hn,hn2,rfl,gx⟩⟩:=hou
  ·simp at h0
  have hn9:n=9:=by simpa using hn2
  subst hn9;have hxl:=Heap.get_lt gx;have hxd:=Ext.push H3 (some [gF x]);obtain⟨b2,hb2,ho2,hne⟩:=zI (K:=H3++[some [gF x]]) ho hb (hx3.trans hxd) (by simp;omega) (by simp;omega);have hne2:x≠b2:=by
   rcases hne with h|h
   ·omega
   ·simp at h;omega
  have ge:H3++[some [Value.slice (some ⟨x,0,some 1⟩) 9 9]]=H3++[some [gF x]]:=rfl;have hl9:=hl.resolve_left id;replace gx:False∨_:=.inr gx;clear ho hn2 hn;(try simp only[aA]);repeat' ((first|refine bx ?_|refine bz rfl ?_);(try simp only[aA]))
  clear ge;refine ke ?_;refine eG (c':=[gF x]) (c:=[gF x]) ho2 (by simp;omega) (by decide) (by decide) (by simp;omega) aH (by simp) rfl rfl ?_;intro v' H5 ho5 hk5 hl5;have hx5:=hk5.ext ((hx2.trans hx3).trans hxd) hb2;simp only[List.length_append,List.length_cons,List.length_nil]at ho5 hl5;have ho6:Own lo 1 H5 v' (H3.length+1) ((l++[x]).map gF):=by rw[List.map_append];exact ho5
  have g5:H5.get x=some (List.replicate 9 (Value.slice none 0 0)):=hk5.get (hxd.get (gx.resolve_left id)) hne2;have hat:∀t,t<i→(l++[x]).getD t 0=l.getD t 0:=fun t ht=>by rw[List.getD_eq_getElem?_getD,List.getElem?_append_left (by omega),←List.getD_eq_getElem?_getD]
  have hati:(l++[x]).getD i 0=x:=by rw[List.getD_eq_getElem?_getD,List.getElem?_append_right (by omega),hl9];simp
  have hrows':∀t,t<i+1→H1.length≤(l++[x]).getD t 0∧(l++[x]).getD t 0<H5.length∧H5.get ((l++[x]).getD t 0)=some (List.replicate 9 (Value.slice none 0 0))∧(l++[x]).getD t 0≠H3.length+1∨False:=by
   intro t ht;by_cases e:t=i
   ·subst e
    rw[hati];exact .inl ⟨by omega,by omega,g5,by omega⟩
   ·rw[hat t (by omega)]
    obtain⟨q1,q2,q3,q4⟩:=(hrows t (by omega)).resolve_right id;have hneq:l.getD t 0≠b2:=by
     intro e;have g1:=hxd.get (hx3.get q3);rw[e]at g1;obtain⟨-,⟨-,h0⟩|⟨n,h1,h2,h3,h4⟩⟩:=ho2
     ·have:l=[]:=by simpa using h0
      subst this;simp at hl9;omega
     ·rw[g1]at h4
      injection h4 with h4;cases l with
      | nil=>simp at h4
      | cons z l=>simp[gF,List.replicate_succ]at h4
    exact .inl ⟨q1,by omega,hk5.get (hxd.get (hx3.get q3)) hneq,by omega⟩
  have hinc':∀t u,t<u→u<i+1→(l++[x]).getD t 0<(l++[x]).getD u 0:=by
   intro t u htu hu;rw[hat t (by omega)];by_cases e:u=i
   ·subst e
    rw[hati];have:=((hrows t (by omega)).resolve_right id).2.1;omega
   ·rw[hat u (by omega)]
    exact hinc.resolve_left id t u htu (by omega)
  clear hrows ho2 ho5 hl9 hat hati g5 gx;(try simp only[aA]);repeat' ((first|refine bx ?_|refine bz rfl ?_);(try simp only[aA]))
  exact⟨hx5,v',H3.length+1,l++[x],by omega,ho6,by have:=hl.resolve_left id;simp;omega,hrows',hinc',aE (by first|rfl|(simp only[Int.natCast_add,Int.natCast_one];rfl)|simp only[Int.natCast_add,Int.natCast_one])⟩
 rintro S H2 ⟨hx2,w,b,l,hb,ho,hl,hrows,hinc,z,rfl⟩;obtain⟨rfl,hT⟩:=FH hb ho hl (fun t ht=>(hrows t ht).resolve_right id) hinc;have hl2:=hx2.1;have hRG:=RG.end (p:=p) (R:=fun _ _=>[]) (fun _ _=>rfl);generalize hrb:(fun t=>l.getD t 0)=rb at hT;clear ho hl hrows hinc hrb hb;obtain⟨Bm,xm,mb,rfl,hBm1,hBm2,gM,hxm,hms⟩:=hmv.tab;have hA:∀{j},j≤p.length→lo≤rb j:=fun {j} hj=>by have:=(hT.rows j hj).1;omega
 replace hms:False∨_:=.inr hms;replace hRG:False∨_:=.inr hRG;replace hA:False∨(∀j,j≤p.length→lo≤rb j):=.inr fun j hj=>hA hj;obtain⟨Z,hZ⟩:∃Z,H2.length=Z:=⟨_,rfl⟩;rw[hZ]at hT;have hZ1:Z≤H2.length:=by omega
 clear hZ hmv;(try simp only[aA]);repeat' ((first|refine bx ?_|refine bz rfl ?_);(try simp only[aA]))
 refine ai (fun k S H'=>Ext H1 H'∧Z≤H'.length∧k≤p.length∧(∃R,BestH H1.length Z H' b p.length rb R∧RG p (p.length-k) R)∧∃(z:Nat→Value),S=[.slice ad p.length c0,z 1,z 2,.slice (some ⟨Bm,0,some 1⟩) 9 9,.slice (some ⟨b,0,some 1⟩) (p.length+1) (p.length+1),z 5,z 6,z 7,.int .i64 (((p.length-k:Nat):Int)-1),z 9,z 10,z 11,z 12,z 13,z 14,z 15,z 16,z 17,z 18,z 19,z 20,z 21,z 22,z 23,z 24,z 25,z 26,z 27,z 28,z 29]) p.length ?_ ?_ ?_ ?_
 ·exact⟨hx2,hZ1,Nat.zero_le _,⟨_,hT,hRG.resolve_left id⟩,aE rfl⟩
 ·rintro k S H' hk ⟨-,-,hkp,-,z,rfl⟩
  exact⟨_,fT,by simp;omega⟩
 ·clear hT hRG
  rintro k S H3 hk ⟨hx3,hZ3,-,⟨R,hB,hRG⟩,z,rfl⟩;obtain⟨a,ha⟩:∃a,p.length-k=a+1:=⟨p.length-k-1,by omega⟩;have ea:(((a+1:Nat):Int)-1)=(a:Nat):=by omega
  have ha2:p.length-(k+1)=a:=by omega
  have hap:a<p.length:=by omega
  rw[ha]at hRG;rw[ha,ea];clear ea ha;have hRB:RB p a R:=fun j s h1 h2 h3=>hRG j s h1 h2 h3;have hOk:=hRB.ok (hlow.resolve_left id) hp;have hl3:=hx3.1;replace ha2:False∨_:=.inr ha2;replace hRG:False∨_:=.inr hRG;replace hRB:False∨_:=.inr hRB;(try simp only[aA]);repeat' ((first|refine bx ?_|refine bz rfl ?_);(try simp only[aA]))
  refine ke ?_;refine aC (Dr (by omega) hZ3 (hv0.mono (hx1.trans hx3)) hp rfl hap hB hOk) ?_;rintro fv H4 ⟨hx4,first,hf,hbest⟩;have hB4:=hB.mono hx4;have hx34:=hx3.trans hx4;have hl4:=hx34.1;have hl43:=hx4.1;have hfo:first.length≤200000∧∀y ∈ first,y≤928:=by
   rcases hbest.1 with h|h
   ·exact h.ok hOk hp
   ·exact h.ok hOk hp
  replace hOk:False∨_:=.inr hOk;replace hbest:False∨_:=.inr hbest;replace hfo:False∨_:=.inr hfo;have hZ4:Z≤H4.length:=by omega
  clear hB hx4 hx3 hl43 hZ3;(try simp only[aA]);repeat' ((first|refine bx ?_|refine bz rfl ?_);(try simp only[aA]))
  refine ai (fun s S H'=>Ext H1 H'∧Z≤H'.length∧Fz Z H' fv first∧(∃R',BestH H1.length Z H' b p.length rb R'∧(∀j t,j≠a→R' j t=R j t)∧(∀t,t<s→BestIn (j3 p a R t) (R' a t)))∧∃(z:Nat→Value),S=[.slice ad p.length c0,z 1,z 2,.slice (some ⟨Bm,0,some 1⟩) 9 9,.slice (some ⟨b,0,some 1⟩) (p.length+1) (p.length+1),z 5,z 6,z 7,.int .i64 (a:Nat),fv,.int .i64 (s:Nat),z 11,z 12,z 13,z 14,z 15,z 16,z 17,z 18,z 19,z 20,z 21,z 22,z 23,z 24,z 25,z 26,z 27,z 28,z 29]) 8 ?_ ?_ ?_ ?_
  ·exact⟨hx34,hZ4,hf,⟨R,hB4,fun _ _ _=>rfl,fun t ht=>by omega⟩,aE rfl⟩
  ·rintro s S H' hs ⟨-,-,-,-,z,rfl⟩
   exact⟨_,fT,by simp;omega⟩
  ·clear hf hB4 hx34 hl4 hZ4
   rintro s S H5 hs ⟨hx5,hZ5,hf,⟨R',hB,hRe,hbs⟩,z,rfl⟩;have hl5:=hx5.1;have hOk':OkR p.length a R':=fun j t h1 h2 h3=>by rw[hRe j t (by omega)];exact hOk.resolve_left id j t h1 h2 h3
   have hlo5:=hA.resolve_left id a (by omega);obtain⟨xs,gB,xl,hxs⟩:=hB.get;have gxj:xs[a]?=some (.slice (some ⟨rb a,0,some 1⟩) 9 9):=hxs a (by omega);have hsx:eK xs xs=true:=ju fun q hq=>by
    obtain⟨t,ht,rfl⟩:=List.getElem_of_mem hq;have:=hxs t (by omega);rw[List.getElem?_eq_getElem ht]at this;injection this with this;rw[this];simp[gF,iG]
   have hrwZ:=(hB.rows a (by omega)).2.1;replace hxs:False∨_:=.inr hxs;replace hRe:False∨_:=.inr hRe;replace hbs:False∨_:=.inr hbs;(try simp only[aA]);refine ke ?_;refine dr rfl ((G1 (by omega) hZ5 (hv0.mono (hx1.trans hx5)) hp rfl hap hs hB hOk' hf (hbest.resolve_left id) (hfo.resolve_left id).1 (hfo.resolve_left id).2).mono ?_);rintro u H6 ⟨hx6,out,hout,hob⟩;refine⟨?_,?_⟩
   ·simp only[List.take_succ_cons,List.take_zero,List.all_cons,List.all_nil,Bool.and_true,Bool.and_eq_true]
    exact eu rfl gB (hx6.get gB) hsx
   have hB6:=hB.mono hx6;obtain⟨vs,hrow⟩:=hB6.row a (by omega);have hset:=hB6.set (s:=s) (u:=u) (l:=out) (show a≤p.length by omega) (by omega) hrow hout;have hk:Keep (rb a) H6 (H6.set (rb a) (some (vs.set s u))):=⟨by simp,fun i _ hne=>aM (fun e=>hne e.symm)⟩;have hra:=(hB.rows a (by omega)).1;have hx7:=hk.ext (hx5.trans hx6) hra;have hf7:=(hf.mono hx6).keep hk hrwZ;have hu1:u.cells=#[u]∧u.oneCell'=true:=by obtain⟨x,c,rfl⟩:=hout.sl.len;exact⟨rfl,rfl⟩
   obtain⟨hu1,hu2⟩:=hu1;have gr:=hrow.get;have hrl:=hrow.len;have hl6:=hx6.1;have hob2:BestIn (j3 p a R s) out:=hob.congr fun x=>by
    rw[←Ah hs];have e0:∀j t,j≠a→R' j t=R j t:=hRe.resolve_left id;have e1:PairC p a s 900 R' x↔PairC p a s 900 R x:=by
     unfold PairC;constructor
     ·rintro⟨c,n,t,h1,h2,h3,h4⟩;exact⟨c,n,t,h1,h2,h3,by rw[←e0 _ _ (by omega)];exact h4⟩
     ·rintro⟨c,n,t,h1,h2,h3,h4⟩;exact⟨c,n,t,h1,h2,h3,by rw[e0 _ _ (by omega)];exact h4⟩
    rw[e1,e0 _ _ (by omega)]
   have hsz:(H6.set (rb a) (some (vs.set s u))).length=H6.length:=by simp
   replace hob2:False∨_:=.inr hob2;replace hset:False∨_:=.inr hset.1;clear hob hB6 hrow hB hf hout hxs gB hsx hk;(try simp only[aA]);have est:aR lo (.st 1) [.pointer (some ⟨rb a,s,none⟩),u] H6=some (undef,H6.set (rb a) (some (vs.set s u))):=by
    rw[lD hlo5 hu1 hu2,gr];simp only[hrl,show s<9 by omega,if_true]
   refine eV rfl (by simp(disch:=first|omega|(simp only[aD];omega))only[evB,cH,Nat.reduceAdd,Nat.reduceMul,Nat.reduceBEq,Int.reduceToNat,Int.reduceEq,Int.reduceNe,Int.reduceLT, *];try rfl) (by simp(disch:=first|omega|(simp only[aD];omega))only[evB,cH,Nat.reduceAdd,Nat.reduceMul,Nat.reduceBEq,Int.reduceToNat,Int.reduceEq,Int.reduceNe,Int.reduceLT, *]) (by simp(disch:=first|omega|(simp only[aD];omega))only[evB,cH,Nat.reduceAdd,Nat.reduceMul,Nat.reduceBEq,Int.reduceToNat,Int.reduceEq,Int.reduceNe,Int.reduceLT, *];try rfl) est (by simp(disch:=first|omega|(simp only[aD];omega))only[evB,cH,Nat.reduceAdd,Nat.reduceMul,Nat.reduceBEq,Int.reduceToNat,Int.reduceEq,Int.reduceNe,Int.reduceLT, *];try rfl) ?_;clear est;generalize H6.set (rb a) (some (vs.set s u))=H7 at *;(try simp only[aA]);(repeat' ((first|refine bx ?_|refine bz rfl ?_);(try simp only[aA])));refine⟨hx7,by omega,hf7,⟨j4 R' a s out,hset.resolve_left id,fun j t hj=>by rw[jS (.inl hj)];exact hRe.resolve_left id j t hj,fun t ht=>?_⟩,aE (by first|rfl|(simp only[Int.natCast_add,Int.natCast_one];rfl)|simp only[Int.natCast_add,Int.natCast_one])⟩;by_cases e:t=s
   ·subst e;rw[n5];exact hob2.resolve_left id
   ·rw[jS (.inr e)];exact hbs.resolve_left id t (by omega)
  clear hf hB4 hx34 hl4 hZ4 hfo;rintro S H5 ⟨hx5,hZ5,hf,⟨R1,hB,hRe,hbs⟩,z,rfl⟩;have hl5:=hx5.1;have hlo5:=hA.resolve_left id a (by omega);obtain⟨xs,gB,xl,hxs⟩:=hB.get;have gxj:xs[a]?=some (.slice (some ⟨rb a,0,some 1⟩) 9 9):=hxs a (by omega);have hrwZ:=(hB.rows a (by omega)).2.1;have hra:=(hB.rows a (by omega)).1;obtain⟨vs,hrow⟩:=hB.row a (by omega);have hset:=hB.set (s:=8) (u:=fv) (l:=first) (show a≤p.length by omega) (by decide) hrow hf;have hk:Keep (rb a) H5 (H5.set (rb a) (some (vs.set 8 fv))):=⟨by simp,fun i _ hne=>aM (fun e=>hne e.symm)⟩;have hx6:=hk.ext hx5 hra;have hu1:fv.cells=#[fv]∧fv.oneCell'=true:=by obtain⟨x,c,rfl⟩:=hf.sl.len;exact⟨rfl,rfl⟩
  obtain⟨hu1,hu2⟩:=hu1;have gr:=hrow.get;have hrl:=hrow.len;have hsz:(H5.set (rb a) (some (vs.set 8 fv))).length=H5.length:=by simp
  have hR0:∀t,t<9→RndC p a 0 R t (j4 R1 a 8 first a t):=by
   intro t ht;refine RndC.zero (hRB.resolve_left id) hap ht ?_;by_cases e:t=8
   ·subst e;rw[n5];exact(hbest.resolve_left id).congr fun x=>C9 x
   ·rw[jS (.inr e)];exact hbs t (by omega)
  have hRe2:∀j t,j≠a→j4 R1 a 8 first j t=R j t:=fun j t hj=>by rw[jS (.inl hj)];exact hRe j t hj
  have est:aR lo (.st 1) [.pointer (some ⟨rb a,8,none⟩),fv] H5=some (undef,H5.set (rb a) (some (vs.set 8 fv))):=by
   rw[lD hlo5 hu1 hu2,gr];simp only[hrl,show 8<9 by omega,if_true]
  replace hset:False∨_:=.inr hset.1;replace hR0:False∨_:=.inr hR0;replace hRe2:False∨_:=.inr hRe2;replace hxs:False∨_:=.inr hxs;clear hB hrow hf hk hbs hRe hbest;(try simp only[aA]);refine eV rfl (by simp(disch:=first|omega|(simp only[aD];omega))only[evB,cH,Nat.reduceAdd,Nat.reduceMul,Nat.reduceBEq,Int.reduceToNat,Int.reduceEq,Int.reduceNe,Int.reduceLT, *];try rfl) (by simp(disch:=first|omega|(simp only[aD];omega))only[evB,cH,Nat.reduceAdd,Nat.reduceMul,Nat.reduceBEq,Int.reduceToNat,Int.reduceEq,Int.reduceNe,Int.reduceLT, *]) (by simp(disch:=first|omega|(simp only[aD];omega))only[evB,cH,Nat.reduceAdd,Nat.reduceMul,Nat.reduceBEq,Int.reduceToNat,Int.reduceEq,Int.reduceNe,Int.reduceLT, *];try rfl) est (by simp(disch:=first|omega|(simp only[aD];omega))only[evB,cH,Nat.reduceAdd,Nat.reduceMul,Nat.reduceBEq,Int.reduceToNat,Int.reduceEq,Int.reduceNe,Int.reduceLT, *];try rfl) ?_;clear est gr hrl hu1 hu2 gxj gB hxs xl;generalize H5.set (rb a) (some (vs.set 8 fv))=H6 at *;have hB6:=hset.resolve_left id;have hR0:=hR0.resolve_left id;have hRe2:=hRe2.resolve_left id;generalize j4 R1 a 8 first=R2 at *
  clear hset;have hZ6:Z≤H6.length:=by omega
  clear hsz hl5 hZ5 hx5;(try simp only[aA]);repeat' ((first|refine bx ?_|refine bz rfl ?_);(try simp only[aA]))
  refine ai (fun r S H'=>Ext H1 H'∧Z≤H'.length∧(∃R',BestH H1.length Z H' b p.length rb R'∧(∀j t,j≠a→R' j t=R j t)∧(∀t,t<9→RndC p a r R t (R' a t)))∧∃(z:Nat→Value),S=[.slice ad p.length c0,z 1,z 2,.slice (some ⟨Bm,0,some 1⟩) 9 9,.slice (some ⟨b,0,some 1⟩) (p.length+1) (p.length+1),z 5,z 6,z 7,.int .i64 (a:Nat),z 9,z 10,.int .i64 (r:Nat),z 12,z 13,z 14,z 15,z 16,z 17,z 18,z 19,z 20,z 21,z 22,z 23,z 24,z 25,z 26,z 27,z 28,z 29]) 8 ?_ ?_ ?_ ?_
  ·exact⟨hx6,hZ6,⟨R2,hB6,hRe2,hR0⟩,aE rfl⟩
  ·rintro r S H' hr ⟨-,-,-,z,rfl⟩
   exact⟨_,fT,by simp;omega⟩
  ·clear hx6 hZ6 hB6 hRe2 hR0
   rintro r S H7 hr ⟨hx7,hZ7,⟨R3,hB7,hRe3,hR3⟩,z,rfl⟩;(try simp only[aA]);(repeat' ((first|refine bx ?_|refine bz rfl ?_);(try simp only[aA])));refine ai (fun s S H'=>Ext H1 H'∧Z≤H'.length∧(∃R',BestH H1.length Z H' b p.length rb R'∧(∀j t,j≠a→R' j t=R j t)∧(∀t,t<9→RndC p a r R t (R' a t))∧(∀t,t<s→RndC p a (r+1) R t (R' a t)))∧∃(z:Nat→Value),S=[.slice ad p.length c0,z 1,z 2,.slice (some ⟨Bm,0,some 1⟩) 9 9,.slice (some ⟨b,0,some 1⟩) (p.length+1) (p.length+1),z 5,z 6,z 7,.int .i64 (a:Nat),z 9,z 10,.int .i64 (r:Nat),.int .i64 (s:Nat),z 13,z 14,z 15,z 16,z 17,z 18,z 19,z 20,z 21,z 22,z 23,z 24,z 25,z 26,z 27,z 28,z 29]) 9 ?_ ?_ ?_ ?_
   ·exact⟨hx7,hZ7,⟨R3,hB7,hRe3,hR3,fun t ht=>by omega⟩,aE rfl⟩
   ·rintro s S H' hs ⟨-,-,-,z,rfl⟩
    exact⟨_,fT,by simp;omega⟩
   ·clear hx7 hZ7 hB7 hRe3 hR3
    rintro s S H8 hs ⟨hx8,hZ8,⟨R4,hB8,hRe4,hR4,hR4b⟩,z,rfl⟩;(try simp only[aA]);(repeat' ((first|refine bx ?_|refine bz rfl ?_);(try simp only[aA])));refine ai (fun t S H'=>Ext H1 H'∧Z≤H'.length∧(∃R',BestH H1.length Z H' b p.length rb R'∧(∀j t,j≠a→R' j t=R j t)∧(∀t,t<9→RndC p a r R t (R' a t))∧(∀t,t<s→RndC p a (r+1) R t (R' a t))∧(∀u,u<t→0≤mvF s u→∀y,lM p a R r u y→sle (R' a s) ((mvF s u).toNat::y)))∧∃(z:Nat→Value),S=[.slice ad p.length c0,z 1,z 2,.slice (some ⟨Bm,0,some 1⟩) 9 9,.slice (some ⟨b,0,some 1⟩) (p.length+1) (p.length+1),z 5,z 6,z 7,.int .i64 (a:Nat),z 9,z 10,.int .i64 (r:Nat),.int .i64 (s:Nat),.int .i64 (t:Nat),z 14,z 15,z 16,z 17,z 18,z 19,z 20,z 21,z 22,z 23,z 24,z 25,z 26,z 27,z 28,z 29]) 8 ?_ ?_ ?_ ?_
    ·exact⟨hx8,hZ8,⟨R4,hB8,hRe4,hR4,hR4b,fun t ht=>by omega⟩,aE rfl⟩
    ·rintro t S H' ht ⟨-,-,-,z,rfl⟩
     exact⟨_,fT,by simp;omega⟩
    ·clear hx8 hZ8 hB8 hRe4 hR4 hR4b
     rintro t S H9 ht ⟨hx9,hZ9,⟨R5,hB,hRe5,hR5,hR5b,hR5c⟩,z,rfl⟩;have hl9:=hx9.1;obtain⟨xs,gB,xl,hxs⟩:=hB.get;have gxj:xs[a]?=some (.slice (some ⟨rb a,0,some 1⟩) 9 9):=hxs a (by omega);obtain⟨vs,hrow⟩:=hB.row a (by omega);have gr:=hrow.get;have hrl:=hrow.len;obtain⟨ut,hut,hft⟩:=hrow.at_ t (by omega);obtain⟨us,hus,hfs⟩:=hrow.at_ s hs;obtain⟨hm1,hm2,hm3,cs,hmr⟩:=hms.resolve_left id s hs;replace hm1:xm[s]?=some (.slice (some ⟨mb s,0,some 1⟩) 9 9):=hm1;have gM9:=hx9.get gM;have gmr:=hx9.get hmr.get;have hml:=hmr.len;have hmt:=hmr.at_ t (by omega);have hok5:=fun u hu=>(hR5 u hu).ok (hlow.resolve_left id) (hOk.resolve_left id) hap hu;have hot:=hok5 t (by omega);have hos:=hok5 s hs;have hm9:mvF s t≤900:=FB s t;have hmov:0≤mvF s t→((mvF s t).toNat,ef a t) ∈ bK p (ef a s):=xy hs ht;have hlo5:=hA.resolve_left id a (by omega);have hra:=(hB.rows a (by omega)).1;have hrwZ:=(hB.rows a (by omega)).2.1;have hc9:∀u,u<t+1→u≠t→u<t:=fun u h1 h2=>by omega
     generalize hmm:mvF s t=m at *;replace hmm:False∨_:=.inr hmm;replace hxs:False∨_:=.inr hxs;replace hmov:False∨_:=.inr hmov;replace hRe5:False∨_:=.inr hRe5;replace hR5:False∨_:=.inr hR5;replace hR5b:False∨_:=.inr hR5b;replace hR5c:False∨_:=.inr hR5c;clear hok5 hmr;(try simp only[aA]);refine rh (fun h=>?_) (fun h=>?_)
     ·have hm0:0≤m:=by simpa using h
      clear h;obtain⟨q,rfl⟩:∃q:Nat,m=(q:Nat):=⟨m.toNat,by omega⟩;have hut2:=hft.sl;obtain⟨at_,ct,rfl⟩:=hut2.len;obtain⟨as_,cs_,rfl⟩:=hfs.sl.len;have ge:H9++[some [Value.int .i64 ((q:Nat):Int)]]=H9++[some [ag q]]:=rfl;(try simp only[aA]);(repeat' ((first|refine bx ?_|refine bz rfl ?_);(try simp only[aA])));clear ge;have hxd:=Ext.push H9 (some [ag q]);have gd:Heap.get (H9++[some [ag q]]) H9.length=some [ag q]:=aQ _ _;have hKd:(H9++[some [ag q]]).length=H9.length+1:=by simp
      generalize H9++[some [ag q]]=G at *;have h1s:SlN G (.slice (some ⟨H9.length,0,none⟩) 1 1) [q]:=Sl.whole gd rfl;refine ke ?_;refine kU (jD (a:=[q]) (b:=R5 a t) (by omega) h1s ((hft.mono hxd).sl) (by simp;omega)) ?_;rintro r2 K2 ⟨hxK2,k2,hg2⟩;have hx2:=(hx9.trans hxd).trans hxK2;have hlK2:=hxK2.1;have hgz:=hg2.lower (show Z≤G.length by omega);have hxd2:=hxd.trans hxK2;have hB2:=hB.mono hxd2;have gB2:=hxd2.get gB;have gr2:=hxd2.get gr;have hrow2:=hrow.mono hxd2;have hfs2:=hfs.mono hxd2;have hxlen:([q]++R5 a t).length≤200000:=by simp only[List.length_append,List.length_cons,List.length_nil];omega
      have hxok:∀x ∈ [q]++R5 a t,x≤928:=by
       intro x hx;rcases List.mem_append.1 hx with h|h
       ·simp at h;omega
       ·exact hot.2 x h
      have hfx:Fz Z K2 r2 ([q]++R5 a t):=⟨k2,hgz⟩;have hXacc:Acc p (ef a s) ([q]++R5 a t):=⟨_,hmov.resolve_left id (by omega),(hR5.resolve_left id t (by omega)).1⟩;have hXle:∀y,lM p a R r t y→sle ([q]++R5 a t) (q::y):=fun y hy=>jX [q] ((hR5.resolve_left id t (by omega)).2 r y (Nat.le_refl _) hy);have hXv:mvF s t=(q:Nat):=hmm.resolve_left id;generalize [q]++R5 a t=X at *;obtain⟨ax,cx,rfl⟩:=hfx.sl.len;have hset:=hB2.set (s:=s) (u:=.slice ax X.length cx) (l:=X) (show a≤p.length by omega) hs hrow2 hfx;have hos1:=hos.1;have hos2:False∨_:=.inr hos.2;replace hxok:False∨_:=.inr hxok;replace hXv:False∨_:=.inr hXv;replace hXle:False∨_:=.inr hXle;clear hg2 hgz gB gr gd hrow hfs hft hut2 hB hot hos hmov hmt gmr gM9 hm1 hmm;(try simp only[aA]);(repeat' ((first|refine bx ?_|refine bz rfl ?_);(try simp only[aA])));refine ke ?_;refine aC (o9 hfx.sl hfs2.sl (by omega) (by omega) (fun x hx=>by have:=hxok.resolve_left id x hx;omega) (fun x hx=>by have:=hos2.resolve_left id x hx;omega)) ?_;rintro r3 K3 ⟨rfl,tt,rfl,ht1,ht2⟩;have hk:Keep (rb a) K3 (K3.set (rb a) (some (vs.set s (.slice ax X.length cx)))):=⟨by simp,fun i _ hne=>aM (fun e=>hne e.symm)⟩;have hxk:=hk.ext hx2 hra;have hsz:(K3.set (rb a) (some (vs.set s (.slice ax X.length cx)))).length=K3.length:=by simp
      have hR5:=hR5.resolve_left id;have hR5b:=hR5b.resolve_left id;have hR5c:=hR5c.resolve_left id;have hRe5:=hRe5.resolve_left id;have hXle:=hXle.resolve_left id;have hXv:=hXv.resolve_left id;have hnew:tt=true→(∀u,u<9→RndC p a r R u (j4 R5 a s X a u))∧(∀u,u<s→RndC p a (r+1) R u (j4 R5 a s X a u))∧(∀u,u<t+1→0≤mvF s u→∀y,lM p a R r u y→sle (j4 R5 a s X a s) ((mvF s u).toNat::y)):=by
       intro h;have hle:=(ht1 h).le;refine⟨fun u hu=>?_,fun u hu=>?_,fun u hu h0 y hy=>?_⟩
       ·by_cases e:u=s
        ·subst e;rw[n5];exact(hR5 u hu).dec hXacc hle
        ·rw[jS (.inr e)];exact hR5 u hu
       ·rw[jS (.inr (by omega))];exact hR5b u hu
       ·rw[n5]
        by_cases e:u=t
        ·subst e;rw[hXv,Int.toNat_natCast];exact hXle y hy
        ·exact fm hle (hR5c u (by omega) h0 y hy)
      have hold:tt=false→∀u,u<t+1→0≤mvF s u→∀y,lM p a R r u y→sle (R5 a s) ((mvF s u).toNat::y):=by
       intro h u hu h0 y hy;by_cases e:u=t
       ·subst e;rw[hXv,Int.toNat_natCast];exact fm (ht2 h) (hXle y hy)
       ·exact hR5c u (by omega) h0 y hy
      have hRe6:∀j u,j≠a→j4 R5 a s X j u=R j u:=fun j u hj=>by rw[jS (.inl hj)];exact hRe5 j u hj
      replace hnew:False∨_:=.inr hnew;replace hold:False∨_:=.inr hold;replace hRe6:False∨_:=.inr hRe6;replace hR5:False∨_:=.inr hR5;replace hR5b:False∨_:=.inr hR5b;replace hRe5:False∨_:=.inr hRe5;replace hset:False∨_:=.inr hset.1;clear ht1 ht2 hR5c hXle hXv hXacc hk hrow2 hfs2 hfx;(try simp only[aA]);refine rh (fun h=>?_) (fun h=>?_)
      ·have hnew:=hnew.resolve_left id h
       clear h hold;replace hnew:False∨_:=.inr hnew;(try simp only[aA]);(repeat' ((first|refine bx ?_|refine bz rfl ?_);(try simp only[aA])));have hnew:=hnew.resolve_left id;exact⟨hxk,by omega,⟨_,hset.resolve_left id,hRe6.resolve_left id,hnew.1,hnew.2.1,hnew.2.2⟩,aE (by first|rfl|(simp only[Int.natCast_add,Int.natCast_one];rfl)|simp only[Int.natCast_add,Int.natCast_one])⟩
      ·have hold:=hold.resolve_left id h
       clear h hnew;replace hold:False∨_:=.inr hold;(try simp only[aA]);(repeat' ((first|refine bx ?_|refine bz rfl ?_);(try simp only[aA])));exact⟨hx2,by omega,⟨R5,hB2,hRe5.resolve_left id,hR5.resolve_left id,hR5b.resolve_left id,hold.resolve_left id⟩,aE (by first|rfl|(simp only[Int.natCast_add,Int.natCast_one];rfl)|simp only[Int.natCast_add,Int.natCast_one])⟩
     ·have hm0:¬ 0≤m:=by simpa using h
      clear h;have hold:∀u,u<t+1→0≤mvF s u→∀y,lM p a R r u y→sle (R5 a s) ((mvF s u).toNat::y):=by
       intro u hu h0 y hy;by_cases e:u=t
       ·subst e;rw[hmm.resolve_left id]at h0;omega
       ·exact hR5c.resolve_left id u (by omega) h0 y hy
      replace hold:False∨_:=.inr hold;clear hrow hfs hft hot hos hmov hmt gmr gM9 hm1 hmm hR5c;(try simp only[aA]);(repeat' ((first|refine bx ?_|refine bz rfl ?_);(try simp only[aA])));exact⟨hx9,hZ9,⟨R5,hB,hRe5.resolve_left id,hR5.resolve_left id,hR5b.resolve_left id,hold.resolve_left id⟩,aE (by first|rfl|(simp only[Int.natCast_add,Int.natCast_one];rfl)|simp only[Int.natCast_add,Int.natCast_one])⟩
    clear hx8 hZ8 hB8 hRe4 hR4 hR4b;rintro S H9 ⟨hx9,hZ9,⟨R5,hB,hRe5,hR5,hR5b,hR5c⟩,z,rfl⟩;have hup:=(hR5 s hs).up (fun t ht h0 y hy=>hR5c t ht h0 y hy);replace hup:False∨_:=.inr hup;replace hR5:False∨_:=.inr hR5;replace hR5b:False∨_:=.inr hR5b;replace hRe5:False∨_:=.inr hRe5;clear hR5c;(try simp only[aA]);(repeat' ((first|refine bx ?_|refine bz rfl ?_);(try simp only[aA])));refine⟨hx9,hZ9,⟨R5,hB,hRe5.resolve_left id,hR5.resolve_left id,fun t ht=>?_⟩,aE (by first|rfl|(simp only[Int.natCast_add,Int.natCast_one];rfl)|simp only[Int.natCast_add,Int.natCast_one])⟩;by_cases e:t=s
    ·subst e;exact hup.resolve_left id
    ·exact hR5b.resolve_left id t (by omega)
   clear hx7 hZ7 hB7 hRe3 hR3;rintro S H8 ⟨hx8,hZ8,⟨R4,hB8,hRe4,-,hR4b⟩,z,rfl⟩;replace hR4b:False∨_:=.inr hR4b;replace hRe4:False∨_:=.inr hRe4;(try simp only[aA]);(repeat' ((first|refine bx ?_|refine bz rfl ?_);(try simp only[aA])));exact⟨hx8,hZ8,⟨R4,hB8,hRe4.resolve_left id,hR4b.resolve_left id⟩,aE (by first|rfl|(simp only[Int.natCast_add,Int.natCast_one];rfl)|simp only[Int.natCast_add,Int.natCast_one])⟩
  clear hx6 hZ6 hB6 hRe2 hR0;rintro S H7 ⟨hx7,hZ7,⟨R3,hB7,hRe3,hR3⟩,z,rfl⟩;have hRG3:RG p a R3:=by
   intro j s h1 h2 h3;by_cases e:j=a
   ·subst e;exact(hR3 s h3).best (hRB.resolve_left id) hap h3
   ·rw[hRe3 j s e];exact hRG.resolve_left id j s (by omega) h2 h3
  replace hRG3:False∨_:=.inr hRG3;clear hR3 hRe3;(try simp only[aA]);repeat' ((first|refine bx ?_|refine bz rfl ?_);(try simp only[aA]))
  exact⟨hx7,hZ7,by omega,⟨R3,hB7,by rw[ha2.resolve_left id];exact hRG3.resolve_left id⟩,aE (by rw[ha2.resolve_left id];rfl)⟩
 clear hT hRG;rintro S H3 ⟨hx3,hZ3,-,⟨R,hB,hRG⟩,z,rfl⟩;rw[Nat.sub_self]at hRG;obtain⟨xs,gB,xl,hxs⟩:=hB.get;have gx0:xs[0]?=some (.slice (some ⟨rb 0,0,some 1⟩) 9 9):=hxs 0 (by omega);obtain⟨vs,hrow⟩:=hB.row 0 (by omega);obtain⟨u,hu,hfu⟩:=hrow.at_ 0 (by decide);have gr:=hrow.get;have hrl:=hrow.len;have hfin:=hRG 0 0 (Nat.zero_le _) (Nat.zero_le _) (by decide);replace hxs:False∨_:=.inr hxs;replace hfin:False∨_:=.inr hfin;have hu0:=hfu;obtain⟨au,cu,rfl⟩:=hfu.sl.len;(try simp only[aA]);repeat' ((first|refine bx ?_|refine bz rfl ?_);(try simp only[aA]))
 refine Bn ?_;exact⟨hx1.trans hx3,_,R 0 0,rfl,hu0.sl,hfin.resolve_left id⟩
end Go.Proofs.YtgpolmomghejoaaDoor
