/- Lemmas. -/
import Derived.Test.YtmnlgdpdgjbfgaaGreatD9
import Derived.Test.YtmnlgdpdgjbfgaaGreatD29
set_option linter.all false
namespace Go.Proofs.YtmnlgdpdgjbfgaaGreat
open Go.Abs
variable{H:Heap}{lo:Nat}
def fI{α:Type}(x:Int)(k:Int->α):α:=match x with
 | .ofNat 0=>k 0
 | .ofNat (n+1)=>k (.ofNat (n+1))
 | .negSucc n=>k (.negSucc n)
theorem kM{α:Type}(x:Int)(k:Int->α):fI x k=k x:=by
 unfold fI;split<;>rfl
def fN{α:Type}(x:Nat)(k:Nat->α):α:=match x with
 | 0=>k 0
 | n+1=>k (n+1)
theorem et{α:Type}(x:Nat)(k:Nat->α):fN x k=k x:=by
 unfold fN;split<;>rfl
structure Ops (σ:Type) where
 asg:σ->Int->Int->Int->Option σ
 free:σ->Int->Int->Bool
 bump:σ->σ
def goG{σ:Type}(O:Ops σ):σ->List (Int×Int)->Int->Option σ
 | s,[],_=>some s
 | s,p::ps,bit=>match O.asg s p.1 p.2 bit with
  | some s'=>goG O s' ps (bit+1)
  | none=>none
def jC{σ:Type}(O:Ops σ)(s:σ)(l:List (Int×Int)):Option σ:=match goG O s l 0 with
 | some s'=>some (O.bump s')
 | none=>none
def pl(r c:Int):List (Int×Int):=[(r-2,c-2),(r-2,c-1),(r-1,c-2),(r-1,c-1),(r-1,c),(r,c-2),(r,c-1),(r,c)]
def j6{σ:Type}(O:Ops σ)(s:σ)(r c:Int):Option σ:=if O.free s r c=true then jC O s (pl r c) else some s
def c1(n w:Int):List (Int×Int):=[(n-1,0),(n-1,1),(n-1,2),(0,w-2),(0,w-1),(1,w-1),(2,w-1),(3,w-1)]
def c2(n w:Int):List (Int×Int):=[(n-3,0),(n-2,0),(n-1,0),(0,w-4),(0,w-3),(0,w-2),(0,w-1),(1,w-1)]
def c3(n w:Int):List (Int×Int):=[(n-3,0),(n-2,0),(n-1,0),(0,w-2),(0,w-1),(1,w-1),(2,w-1),(3,w-1)]
def c4(n w:Int):List (Int×Int):=[(n-1,0),(n-1,w-1),(0,w-3),(0,w-2),(0,w-1),(1,w-3),(1,w-2),(1,w-1)]
def jl{σ:Type}(O:Ops σ)(b:Bool)(s:σ)(l:List (Int×Int)):Option σ:=if b=true then jC O s l else some s
def k1(R r c:Int):Bool:=decide (r=R)&&decide (c=0)
def k2(R C r c:Int):Bool:=decide (r=R-2)&&decide (c=0)&&decide (C.tmod 4≠0)
def k3(R C r c:Int):Bool:=decide (r=R-2)&&decide (c=0)&&decide (C.tmod 8=4)
def k4(R C r c:Int):Bool:=decide (r=R+4)&&decide (c=2)&&decide (C.tmod 8=0)
def ep{σ:Type}(O:Ops σ)(R C:Int)(s:σ)(r c:Int):Option σ:=
 match jl O (k1 R r c) s (c1 R C)with
 | none=>none
 | some s=>match jl O (k2 R C r c) s (c2 R C)with
  | none=>none
  | some s=>match jl O (k3 R C r c) s (c3 R C)with
   | none=>none
   | some s=>jl O (k4 R C r c) s (c4 R C)
def inB(r c:Int):Bool:=decide (-4000<=r)&&decide (r<=4000)&&decide (-4000<=c)&&decide (c<=4000)
def upG{σ:Type}(O:Ops σ)(C:Int):Nat->σ->Int->Int->Option (σ×Int×Int)
 | 0,_,_,_=>none
 | k+1,s,r,c=>if inB r c=true then match j6 O s r c with
  | none=>none
  | some s=>fI (r-2) fun r=>fI (c+2) fun c=>if 0<=r/\c<C then upG O C k s r c else some (s,r,c)
  else none
def gQ{σ:Type}(O:Ops σ)(R:Int):Nat->σ->Int->Int->Option (σ×Int×Int)
 | 0,_,_,_=>none
 | k+1,s,r,c=>if inB r c=true then match j6 O s r c with
  | none=>none
  | some s=>fI (r+2) fun r=>fI (c-2) fun c=>if r<R/\0<=c then gQ O R k s r c else some (s,r,c)
  else none
def oG{σ:Type}(O:Ops σ)(R C:Int):Nat->σ->Int->Int->Option σ
 | 0,_,_,_=>none
 | k+1,s,r,c=>if inB r c=true then match ep O R C s r c with
  | none=>none
  | some s=>match upG O C 200 s r c with
   | none=>none
   | some (s,r,c)=>fI (r+1) fun r=>fI (c+3) fun c=>match gQ O R 200 s r c with
    | none=>none
    | some (s,r,c)=>fI (r+3) fun r=>fI (c+1) fun c=>if r<R\/c<C then oG O R C k s r c else some s
  else none
section refine
variable {σ τ:Type}{O:Ops σ}{O':Ops τ}{Rel:σ->τ->Prop}
structure Refines (O:Ops σ)(O':Ops τ)(Rel:σ->τ->Prop):Prop where
 asg:∀s t r c b s',Rel s t->O.asg s r c b=some s'->∃t',O'.asg t r c b=some t'/\Rel s' t'
 free:∀s t r c,Rel s t->O.free s r c=O'.free t r c
 bump:∀s t,Rel s t->Rel (O.bump s) (O'.bump t)
variable (h:Refines O O' Rel)
include h
theorem Refines.go:∀(l:List (Int×Int)) (s:σ) (t:τ) (b:Int) (s':σ),Rel s t->goG O s l b=some s'->∃t',goG O' t l b=some t'/\Rel s' t'
 | [],s,t,b,s',hr,e=>by simp only[goG]at e ⊢;cases e;exact⟨t,rfl,hr⟩
 | p::ps,s,t,b,s',hr,e=>by
  simp only[goG]at e ⊢;split at e
  ·rename_i s1 h1
   obtain⟨t1,h2,hr1⟩:=h.asg _ _ _ _ _ _ hr h1;rw[h2];exact Refines.go ps s1 t1 (b+1) s' hr1 e
  ·simp at e
theorem Refines.each(l:List (Int×Int))(s:σ)(t:τ)(s':σ)(hr:Rel s t)(e:jC O s l=some s'):∃t',jC O' t l=some t'/\Rel s' t':=by
 unfold jC at e ⊢;split at e
 ·rename_i s1 h1
  obtain⟨t1,h2,hr1⟩:=h.go _ _ _ _ _ hr h1;rw[h2];cases e;exact⟨_,rfl,h.bump _ _ hr1⟩
 ·simp at e
theorem Refines.eif(b:Bool)(l:List (Int×Int))(s:σ)(t:τ)(s':σ)(hr:Rel s t)(e:jl O b s l=some s'):∃t',jl O' b t l=some t'/\Rel s' t':=by
 unfold jl at e ⊢;cases b with
 | true=>exact h.each l s t s' hr e
 | false=>cases e;exact⟨t,rfl,hr⟩
theorem Refines.pif(r c:Int)(s:σ)(t:τ)(s':σ)(hr:Rel s t)(e:j6 O s r c=some s'):∃t',j6 O' t r c=some t'/\Rel s' t':=by
 unfold j6 at e ⊢;rw[<-h.free s t r c hr];cases hf:O.free s r c with
 | true=>rw[hf]at e;exact h.each _ s t s' hr e
 | false=>rw[hf]at e;cases e;exact⟨t,rfl,hr⟩
theorem Refines.corners(R C r c:Int)(s:σ)(t:τ)(s':σ)(hr:Rel s t)(e:ep O R C s r c=some s'):∃t',ep O' R C t r c=some t'/\Rel s' t':=by
 unfold ep at e ⊢;split at e
 ·simp at e
 ·rename_i s1 e1
  obtain⟨t1,f1,r1⟩:=h.eif _ _ _ _ _ hr e1;split at e
  ·simp at e
  ·rename_i s2 e2
   obtain⟨t2,f2,r2⟩:=h.eif _ _ _ _ _ r1 e2;split at e
   ·simp at e
   ·rename_i s3 e3
    obtain⟨t3,f3,r3⟩:=h.eif _ _ _ _ _ r2 e3;obtain⟨t4,f4,r4⟩:=h.eif _ _ _ _ _ r3 e;exact⟨t4,by simp only[f1,f2,f3,f4],r4⟩
theorem Refines.up(C:Int):∀(k:Nat) (s:σ) (t:τ) (r c:Int) (s':σ) (r' c':Int),Rel s t->upG O C k s r c=some (s',r',c')->∃t',upG O' C k t r c=some (t',r',c')/\Rel s' t'
 | 0,_,_,_,_,_,_,_,_,e=>by simp[upG]at e
 | k+1,s,t,r,c,s',r',c',hr,e=>by
  simp only[upG,kM]at e ⊢;split at e
  ·rename_i hb
   rw[if_pos hb];split at e
   ·simp at e
   ·rename_i s1 e1
    obtain⟨t1,f1,r1⟩:=h.pif _ _ _ _ _ hr e1;simp only[f1];split at e
    ·rename_i hc;rw[if_pos hc];exact Refines.up C k s1 t1 _ _ _ _ _ r1 e
    ·rename_i hc;rw[if_neg hc];cases e;exact⟨t1,rfl,r1⟩
  ·simp at e
theorem Refines.down(R:Int):∀(k:Nat) (s:σ) (t:τ) (r c:Int) (s':σ) (r' c':Int),Rel s t->gQ O R k s r c=some (s',r',c')->∃t',gQ O' R k t r c=some (t',r',c')/\Rel s' t'
 | 0,_,_,_,_,_,_,_,_,e=>by simp[gQ]at e
 | k+1,s,t,r,c,s',r',c',hr,e=>by
  simp only[gQ,kM]at e ⊢;split at e
  ·rename_i hb
   rw[if_pos hb];split at e
   ·simp at e
   ·rename_i s1 e1
    obtain⟨t1,f1,r1⟩:=h.pif _ _ _ _ _ hr e1;simp only[f1];split at e
    ·rename_i hc;rw[if_pos hc];exact Refines.down R k s1 t1 _ _ _ _ _ r1 e
    ·rename_i hc;rw[if_neg hc];cases e;exact⟨t1,rfl,r1⟩
  ·simp at e
theorem Refines.out(R C:Int):∀(k:Nat) (s:σ) (t:τ) (r c:Int) (s':σ),Rel s t->oG O R C k s r c=some s'->∃t',oG O' R C k t r c=some t'/\Rel s' t'
 | 0,_,_,_,_,_,_,e=>by simp[oG]at e
 | k+1,s,t,r,c,s',hr,e=>by
  simp only[oG,kM]at e ⊢;split at e
  ·rename_i hb
   rw[if_pos hb];split at e
   ·simp at e
   ·rename_i s1 e1
    obtain⟨t1,f1,r1⟩:=h.corners _ _ _ _ _ _ _ hr e1;simp only[f1];split at e
    ·simp at e
    ·rename_i s2 ra ca e2
     obtain⟨t2,f2,r2⟩:=h.up _ _ _ _ _ _ _ _ _ r1 e2;simp only[f2];split at e
     ·simp at e
     ·rename_i s3 rb cb e3
      obtain⟨t3,f3,r3⟩:=h.down _ _ _ _ _ _ _ _ _ r2 e3;simp only[f3];split at e
      ·rename_i hc;rw[if_pos hc];exact Refines.out R C k s3 t3 _ _ _ r3 e
      ·rename_i hc;rw[if_neg hc];cases e;exact⟨t3,rfl,r3⟩
  ·simp at e
end refine
def rowOf(R C r c:Int):Int:=let r1:=if r<0 then r+R else r;let c1:=if r<0 then c+(4-(R+4).tmod 8) else c;if c1<0 then r1+(4-(C+4).tmod 8) else r1
def JI(R C r c:Int):Int:=let c1:=if r<0 then c+(4-(R+4).tmod 8) else c;if c1<0 then c1+C else c1
def gB(R C r c:Int):Int:=rowOf R C r c*C+JI R C r c
structure G where
 next:Int
 cells:List Int
def MB(R C r c:Int)(n:Nat):Bool:=inB r c&&decide (0<=gB R C r c)&&decide (gB R C r c<n)
def aZ(R C:Int):Ops G where
 asg:=fun g r c b=>if MB R C r c g.cells.length=true/\0<=g.next/\g.next<=100000 then some ⟨g.next,g.cells.set (gB R C r c).toNat (8*g.next+b)⟩ else none
 free:=fun g r c=>decide (0<=r)&&decide (r<R)&&decide (0<=c)&&decide (c<C)&&decide (g.cells.getD (r*C+c).toNat 0<0)
 bump:=fun g=>⟨g.next+1,g.cells⟩
structure M where
 bits:Nat
 next:Nat
 k:Nat
def okI(r c i:Int)(n:Nat):Bool:=inB r c&&decide (0<=i)&&decide (i<n)
def Kk{α:Type}(R C r c:Int)(k:Int->α):α:=
 fI (if r<0 then r+R else r) fun r1=>fI (if r<0 then c+(4-(R+4).tmod 8) else c) fun c1=>fI (if c1<0 then r1+(4-(C+4).tmod 8) else r1) fun r2=>fI (if c1<0 then c1+C else c1) fun c2=>fI (r2*C+c2) k
theorem Fs{α:Type}(R C r c:Int)(k:Int->α):Kk R C r c k=k (gB R C r c):=by simp only[Kk,kM,gB,rowOf,JI]
def p5(R C:Int)(n:Nat):Ops M where
 asg:=fun m r c b=>Kk R C r c fun i=>if okI r c i n=true/\m.next<=100000/\b=(m.k:Int)-8*m.next/\m.bits.testBit i.toNat=false then
   fN (m.bits ||| 2^i.toNat) fun b=>fN (m.k+1) fun k=>some ⟨b,m.next,k⟩ else none
 free:=fun m r c=>decide (0<=r)&&(decide (r<R)&&(decide (0<=c)&&(decide (c<C)&&!(m.bits.testBit (r*C+c).toNat))))
 bump:=fun m=>fN (m.next+1) fun n=>⟨m.bits,n,m.k⟩
structure MG (n:Nat)(m:M)(g:G):Prop where
 next:g.next=m.next
 len:g.cells.length=n
 bit:∀i,i<n->(m.bits.testBit i=true↔0<=g.cells.getD i (-1))
 neg:∀i,i<n->g.cells.getD i (-1)<0->g.cells.getD i (-1)=-1
 lt:∀i,i<n->g.cells.getD i (-1)<m.k
 inj:∀i j,i<n->j<n->0<=g.cells.getD i (-1)->g.cells.getD i (-1)=g.cells.getD j (-1)->i=j
 sur:∀v:Nat,v<m.k->∃i,i<n/\g.cells.getD i (-1)=v
 cnt:g.cells.countP (fun x=>decide (0<=x))=m.k
theorem iV{l:List Int}{i j:Nat}{v d:Int}(h:i<l.length):(l.set i v).getD j d=if j=i then v else l.getD j d:=by
 simp only[au₀,List.getElem?_set];by_cases e:i=j
 ·subst e;simp[h]
 ·rw[if_neg e,if_neg (fun h=>e h.symm)]
theorem countP_set{p:Int->Bool}:∀{l:List Int} {i:Nat} {v:Int},i<l.length->p (l.getD i (-1))=false->p v=true->(l.set i v).countP p=l.countP p+1
 | [],i,v,h,_,_=>by simp at h
 | a::l,0,v,_,h1,h2=>by
  simp at h1;simp[h1,h2]
 | a::l,i+1,v,h,h1,h2=>by
  have:=countP_set (p:=p) (l:=l) (i:=i) (v:=v) (by simpa using h) (by simpa using h1) h2;simp only[List.set_cons_succ,List.countP_cons,this];omega
theorem tv{R C r c:Int}(h0:0<=r)(h1:r<R)(h2:0<=c)(h3:c<C):0<=r*C+c/\r*C+c<R*C:=by
 have a:(r+1)*C<=R*C:=Int.mul_le_mul_of_nonneg_right byO byO;have b:0<=r*C:=Int.mul_nonneg h0 byO;rw[Int.add_mul]at a;omega
theorem xu{R C:Int}{n:Nat}(hRC:(n:Int)=R*C):Refines (p5 R C n) (aZ R C) (MG n) where
 asg:=by
  intro m g r c b m' hr h;simp only[p5,Fs,et]at h;split at h
  ·rename_i hc
   obtain⟨hok,hn,hb,hbit⟩:=hc;have hok':=hok;simp only[okI,ac₀,af₀]at hok';obtain⟨⟨hin,h0⟩,h1⟩:=hok';generalize hi:(gB R C r c).toNat=i at *;have hilt:i<n:=byO;have hneg:g.cells.getD i (-1)=-1:=by
    refine hr.neg i hilt ?_;have:=hr.bit i hilt;rw[hbit]at this;simp at this;simpa[List.getD]using this
   have hm:m'=⟨m.bits ||| 2^i,m.next,m.k+1⟩:=by simpa using h.symm
   subst hm;refine⟨⟨g.next,g.cells.set i (8*g.next+b)⟩,?_,?_⟩
   ·simp only[aZ]
    rw[if_pos ⟨by rw[hr.len];unfold MB;unfold okI at hok;exact hok,by rw[hr.next];omega,by rw[hr.next];omega⟩,hi]
   ·have c9:8*g.next+b=m.k:=by rw[hr.next,hb];omega
    rw[c9];have hl:i<g.cells.length:=by rw[hr.len];exact hilt
    refine⟨hr.next,by simp[hr.len],?_,?_,?_,?_,?_,?_⟩
    ·intro j hj
     simp only[Nat.testBit_or,Nat.testBit_two_pow,iV hl];by_cases e:j=i
     ·subst e;simp
     ·have:=hr.bit j hj
      have e':¬ i=j:=fun h=>e h.symm;simp only[e',decide_false,Bool.or_false,if_neg e];exact this
    ·intro j hj hlt
     rw[iV hl]at hlt ⊢;split
     ·rename_i e;rw[if_pos e]at hlt;omega
     ·rename_i e;rw[if_neg e]at hlt;exact hr.neg j hj hlt
    ·intro j hj
     rw[iV hl];have:=hr.lt j hj;split<;>(simp only;omega)
    ·intro a b ha hb' h0 he
     rw[iV hl]at h0 he;rw[iV hl]at he;have la:=hr.lt a ha;have lb:=hr.lt b hb';by_cases ea:a=i
     ·by_cases eb:b=i
      ·omega
      ·rw[if_pos ea,if_neg eb]at he;omega
     ·by_cases eb:b=i
      ·rw[if_neg ea,if_pos eb]at he;omega
      ·rw[if_neg ea]at h0 he
       rw[if_neg eb]at he;exact hr.inj a b ha hb' h0 he
    ·intro v hv
     simp only at hv;by_cases e:v=m.k
     ·exact⟨i,hilt,by rw[iV hl,if_pos rfl,e]⟩
     ·obtain⟨j,hj,hjv⟩:=hr.sur v byO
      refine⟨j,hj,?_⟩;rw[iV hl,if_neg (fun e=>by subst e;omega)];exact hjv
    ·simp only
     rw[countP_set hl (by rw[hneg];rfl) (by simp),hr.cnt]
  ·simp at h
 free:=by
  intro m g r c hr;simp only[p5,aZ];by_cases h:(0<=r/\r<R)/\0<=c/\c<C
  ·have hlt:=tv h.1.1 h.1.2 h.2.1 h.2.2
   have hi:(r*C+c).toNat<n:=byO;have:=hr.bit _ hi;have hl:(r*C+c).toNat<g.cells.length:=by rw[hr.len];exact hi
   have e:g.cells.getD (r*C+c).toNat 0=g.cells.getD (r*C+c).toNat (-1):=by simp[List.getD,bb₀ hl]
   rw[e];simp only[h.1.1,h.1.2,h.2.1,h.2.2,decide_true,Bool.true_and];generalize g.cells.getD (r*C+c).toNat (-1)=x at *;cases hb:m.bits.testBit (r*C+c).toNat with
   | true=>
    have:0<=x:=this.1 hb;simp;omega
   | false=>
    have:¬ 0<=x:=fun hx=>by have:=this.2 hx;rw[hb]at this;cases this
    simp;omega
  ·have:(decide (0<=r)&&decide (r<R)&&decide (0<=c)&&decide (c<C))=false:=by
    cases hh:(decide (0<=r)&&decide (r<R)&&decide (0<=c)&&decide (c<C))with
    | false=>rfl
    | true=>simp only[ac₀,af₀]at hh;omega
   rw[this];simp only[Bool.and_assoc]at this ⊢;cases h1:decide (0<=r)<;>cases h2:decide (r<R)<;>cases h3:decide (0<=c)<;>cases h4:decide (c<C)<;>simp_all
 bump:=by
  intro m g hr;simp only[p5,aZ,et];exact⟨by simp only;rw[hr.next];omega,hr.len,hr.bit,hr.neg,hr.lt,hr.inj,hr.sur,hr.cnt⟩
def wL(R C:Int):Option G:=oG (aZ R C) R C 200 ⟨0,List.replicate (R*C).toNat (-1)⟩ 4 0
theorem GX(n:Nat):MG n ⟨0,0,0⟩ ⟨0,List.replicate n (-1)⟩:=by
 have hg:∀i,(List.replicate n (-1:Int)).getD i (-1)=-1:=by
  intro i;simp only[au₀,List.getElem?_replicate];split<;>rfl
 refine⟨rfl,by simp,fun i _=>?_,fun i _ _=>hg i,fun i _=>by rw[hg];simp,fun i j _ _ h=>by simp only[hg]at h;omega,fun v h=>by simp at h,?_⟩
 ·simp only[hg];simp
 ·simp
def dE(R C:Nat)(w:Nat):Bool:=match oG (p5 R C (R*C)) R C 200 ⟨0,0,0⟩ 4 0 with
 | some m=>m.next==w&&m.k==8*w
 | none=>false
structure Ordered (n:Nat)(w:Nat)(l:List Int):Prop where
 len:l.length=n
 neg:∀i,i<n->l.getD i (-1)<0->l.getD i (-1)=-1
 lt:∀i,i<n->l.getD i (-1)<8*w
 inj:∀i j,i<n->j<n->0<=l.getD i (-1)->l.getD i (-1)=l.getD j (-1)->i=j
 sur:∀v:Nat,v<8*w->∃i,i<n/\l.getD i (-1)=v
 cnt:l.countP (fun x=>decide (0<=x))=8*w
theorem xz{R C w:Nat}(h:dE R C w=true):∃g,wL R C=some g/\Ordered (R*C) w g.cells:=by
 unfold dE at h;split at h
 ·rename_i m hm
  simp only[ac₀,beq_iff_eq]at h;obtain⟨g,h1,h2⟩:=(xu (R:=R) (C:=C) (n:=R*C) (by simp)).out _ _ _ _ _ _ _ _ (GX (R*C)) hm;refine⟨g,?_,h2.len,h2.neg,fun i hi=>by have:=h2.lt i hi;omega,h2.inj,fun v hv=>h2.sur v byO,by rw[h2.cnt,h.2]⟩;unfold wL;have e:((R:Int)*(C:Int)).toNat=R*C:=by rw[<-Int.natCast_mul];exact Int.toNat_natCast _
  rw[e];exact h1
 ·simp at h
set_option maxRecDepth 1000000 in
theorem RV:dE 8 8 8=true:=by kernel_rfl
theorem dF{a b A B:Int}(h1:-A<=a)(h2:a<=A)(h3:0<=b)(h4:b<=B)(hA:0<=A):-(A*B)<=a*b/\a*b<=A*B:=by
 have e1:a*b<=A*b:=Int.mul_le_mul_of_nonneg_right h2 h3;have e2:A*b<=A*B:=Int.mul_le_mul_of_nonneg_left h4 hA;have e3:-A*b<=a*b:=Int.mul_le_mul_of_nonneg_right h1 h3;rw[Int.neg_mul]at e3;omega
structure Fil (H:Heap)(p q:Nat)(R C:Int)(g:G):Prop where
 fp:H.get p=some [.int .i64 R,.int .i64 C,.slice (some ⟨q,0,none⟩) g.cells.length g.cells.length,.int .i64 g.next]
 fq:H.get q=some (bN g.cells)
 ne:p≠q
structure Dim (R C:Int):Prop where
 r0:6<=R
 r1:R<=200
 c0:6<=C
 c1:C<=200
theorem mw{R C:Int}{g g':G}{r c b:Int}(h:(aZ R C).asg g r c b=some g'):-4000<=r/\r<=4000/\-4000<=c/\c<=4000/\0<=gB R C r c/\gB R C r c<g.cells.length/\0<=g.next/\g.next<=100000/\g'=⟨g.next,g.cells.set (gB R C r c).toNat (8*g.next+b)⟩:=by
 simp only[aZ]at h;split at h
 ·rename_i hc
  simp only[MB,inB,ac₀,af₀]at hc;simp at h;refine⟨hc.1.1.1.1.1.1,hc.1.1.1.1.1.2,hc.1.1.1.1.2,hc.1.1.1.2,hc.1.1.2,hc.1.2,hc.2.1,hc.2.2,h.symm⟩
 ·simp at h
theorem eM{a:Int}{m:Int}(h:0<=a)(hm:0<m):0<=a.tmod m/\a.tmod m<m:=⟨Int.tmod_nonneg m h,Int.tmod_lt_of_pos a hm⟩
namespace XJWd
def xtr:=zzi @Sz.cells.eq_1 @Sz.val.eq_1
end XJWd
open XJWd
theorem Bm{p q:Nat}{R C:Int}{g g':G}{r c b:Int}(hd:Dim R C)(hf:Fil H p q R C g)(hlo:lo<=q)(hb:0<=b/\b<=7)(h:(aZ R C).asg g r c b=some g') :
  Ev cp lo 132 [.pointer (some ⟨p,0,none⟩),.int .i64 r,.int .i64 c,.int .i64 b] H (fun _ H'=>H'=H.set q (some (bN g'.cells))):=by
 obtain⟨b1,b2,b3,b4,b5,b6,b7,b8,rfl⟩:=mw h;obtain⟨r0,r1,c0,c1⟩:=hd;have fp:=hf.fp;have fq:=hf.fq;have m1:=eM (a:=R+4) (m:=8) byO byO;have m2:=eM (a:=C+4) (m:=8) byO byO;have hql:=Heap.get_lt fq;have hl:=gT g.cells;refine stG rfl rfl ?_;unfold IL;simp only[kB,aB];refine eI (fun S' H'=>H'=H/\S'=[.pointer (some ⟨p,0,none⟩),.int .i64 (if r<0 then r+R else r),.int .i64 (if r<0 then c+(4-(R+4).tmod 8) else c),.int .i64 b]) ?_ ?_
 ·refine cJ ?_ ?_<;>intro h
  ·have hr:r<0:=by simpa using h
   refine aU ?_;exact⟨by trivial,by simp(disch:=try exact dO)only[evB,xtr, *]⟩
  ·have hr:¬ r<0:=by simpa using h
   (try simp only[aB]);exact⟨by trivial,by simp only[if_neg hr]⟩
 rintro S' H' ⟨rfl,rfl⟩;(try simp only[aB]);generalize hr1:(if r<0 then r+R else r)=ra;generalize hc1:(if r<0 then c+(4-(R+4).tmod 8) else c)=ca;have bra:-4000<=ra/\ra<=4200:=by subst hr1;split<;>omega
 have bca:-4010<=ca/\ca<=4010:=by subst hc1;split<;>omega
 refine eI (fun S' H''=>H''=H'/\S'=[.pointer (some ⟨p,0,none⟩),.int .i64 (if ca<0 then ra+(4-(C+4).tmod 8) else ra),.int .i64 (if ca<0 then ca+C else ca),.int .i64 b]) ?_ ?_
 ·refine cJ ?_ ?_<;>intro h
  ·have hr:ca<0:=by simpa using h
   refine aU ?_;exact⟨by trivial,by simp(disch:=try exact dO)only[evB,xtr, *]⟩
  ·have hr:¬ ca<0:=by simpa using h
   (try simp only[aB]);exact⟨by trivial,by simp only[if_neg hr]⟩
 rintro S' H'' ⟨rfl,rfl⟩;have hi:(if ca<0 then ra+(4-(C+4).tmod 8) else ra)*C+(if ca<0 then ca+C else ca)=gB R C r c:=by subst hr1 hc1;rfl
 generalize hr2:(if ca<0 then ra+(4-(C+4).tmod 8) else ra)=rb at *;generalize hc2:(if ca<0 then ca+C else ca)=cb at *;have brb:-4010<=rb/\rb<=4210:=by subst hr2;split<;>omega
 have bcb:-4010<=cb/\cb<=4210:=by subst hc2;split<;>omega
 have hm:=dF (a:=rb) (b:=C) (A:=5000) (B:=200) byO byO byO c1 byO;generalize gB R C r c=i at *;refine aU ?_;refine dI (by simp(disch:=try exact dO)only[evB,xtr, *];rfl) ?_;rfl
theorem Cz{p q:Nat}{R C:Int}{g:G}{r c:Int}(hd:Dim R C)(hf:Fil H p q R C g)(hn:(g.cells.length:Int)=R*C) :
  Ev cp lo 134 [.pointer (some ⟨p,0,none⟩),.int .i64 r,.int .i64 c] H (fun v H'=>H'=H/\v=.bool ((aZ R C).free g r c)):=by
 obtain⟨r0,r1,c0,c1⟩:=hd;have fp:=hf.fp;have fq:=hf.fq;refine stG rfl rfl ?_;unfold IN;simp only[kB,aB];refine aU ?_;simp only[aZ];by_cases h1:0<=r
 ·by_cases h2:r<R
  ·by_cases h3:0<=c
   ·by_cases h4:c<C
    ·have hi:=tv h1 h2 h3 h4
     have hm:=dF (a:=r) (b:=C) (A:=200) (B:=200) byO byO byO c1 byO;have hx:(r*C+c).toNat<g.cells.length:=byO;refine aU ?_;refine dU ?_;refine⟨rfl,?_⟩;simp[aM,h1,h2,h3,h4]
    ·refine aU ?_
     refine dU ?_;refine⟨rfl,?_⟩;simp[aM,h1,h2,h3,h4]
   ·refine aU ?_
    refine dU ?_;refine⟨rfl,?_⟩;simp[aM,h1,h2,h3]
  ·refine aU ?_
   refine dU ?_;refine⟨rfl,?_⟩;simp[aM,h1,h2]
 ·refine aU ?_
  refine dU ?_;refine⟨rfl,?_⟩;simp[aM,h1]
structure Ch (p q:Nat)(H H':Heap):Prop where
 len:H.length<=H'.length
 get:∀i,i<H.length->i≠p->i≠q->H'.get i=H.get i
theorem Ch.refl{p q:Nat}(H:Heap):Ch p q H H:=⟨Nat.le_refl _,fun _ _ _ _=>rfl⟩
theorem Ch.trans{p q:Nat}{A B C:Heap}(h:Ch p q A B)(k:Ch p q B C):Ch p q A C:=⟨Nat.le_trans h.len k.len,fun i hi h1 h2=>(k.get i (bc₀ hi h.len) h1 h2).trans (h.get i hi h1 h2)⟩
theorem Ch.app{p q:Nat}(H L:Heap):Ch p q H (H++L):=⟨by simp,fun _ h _ _=>dN h⟩
theorem Ch.setq{p q:Nat}(H:Heap)(x:Option (List Value)):Ch p q H (H.set q x):=⟨by simp,fun i _ _ h=>aH (fun e=>h e.symm)⟩
theorem Ch.setp{p q:Nat}(H:Heap)(x:Option (List Value)):Ch p q H (H.set p x):=⟨by simp,fun i _ h _=>aH (fun e=>h e.symm)⟩
def cN(l:List (Int×Int)):List Value:=l.flatMap fun p=>[.int .i64 p.1,.int .i64 p.2]
theorem Dt(l:List (Int×Int)):∀(k:Nat),k<l.length->((cN l).drop (k*2)).take 2=[.int .i64 (l.getD k (0,0)).1,.int .i64 (l.getD k (0,0)).2]:=by
 induction l with
 | nil=>intro i h;simp at h
 | cons s l ih=>
  intro i h;cases i with
  | zero=>simp[cN]
  | succ i=>
   have:=ih i (by simpa using h);have e:cN (s::l)=.int .i64 s.1::.int .i64 s.2::cN l:=rfl;rw[e,Nat.succ_mul,List.drop_succ_cons,List.drop_succ_cons];simpa using this
theorem sn(l:List (Int×Int)):(cN l).length=l.length*2:=by
 induction l with
 | nil=>rfl
 | cons s l ih=>simp only[cN,List.flatMap_cons,as₀,ak₀,an₀]at ih ⊢;omega
theorem BG{l:List (Int×Int)}{k:Nat}(h:k<l.length):(cN l).toArray.extract (k*2) (k*2+2)=#[.int .i64 (l.getD k (0,0)).1,.int .i64 (l.getD k (0,0)).2]:=by
 rw[List.extract_toArray,List.extract_eq_take_drop,show k*2+2-k*2=2 by omega,Dt l k h]
theorem ke{l:List (Int×Int)}{k:Nat}(h:k<l.length):l.drop k=l.getD k (0,0)::l.drop (k+1):=by
 rw[List.drop_eq_getElem_cons h];simp[List.getD,bb₀ h]
theorem tU{R C:Int}{g g':G}{r c b:Int}(h:(aZ R C).asg g r c b=some g'):g'.cells.length=g.cells.length/\g'.next=g.next:=by
 obtain⟨_,_,_,_,_,_,_,_,rfl⟩:=mw h;simp
theorem Fil.mono{H H':Heap}{p q:Nat}{R C:Int}{g:G}(h:Fil H p q R C g)(e:Ext H H'):Fil H' p q R C g:=⟨e.get h.fp,e.get h.fq,h.ne⟩
theorem Fil.setq{H:Heap}{p q:Nat}{R C:Int}{g g':G}(h:Fil H p q R C g)(hl:g'.cells.length=g.cells.length)(hn:g'.next=g.next):Fil (H.set q (some (bN g'.cells))) p q R C g':=
 ⟨by rw[aH (fun e=>h.ne e.symm),h.fp,hl,hn],by rw[aF (Heap.get_lt h.fq)],h.ne⟩
theorem pO{R C:Int}:∀{l:List (Int×Int)} {g g':G} {b:Int},goG (aZ R C) g l b=some g'->g'.cells.length=g.cells.length/\g'.next=g.next/\(l≠[]->0<=g.next/\g.next<=100000)
 | [],g,g',b,h=>by simp only[goG]at h;cases h;exact⟨rfl,rfl,fun h=>absurd rfl h⟩
 | p::l,g,g',b,h=>by
  simp only[goG]at h;split at h
  ·rename_i g1 h1
   have h2:=tU h1;have h3:=mw h1;obtain⟨e1,e2,_⟩:=pO h;exact⟨e1.trans h2.1,e2.trans h2.2,fun _=>⟨h3.2.2.2.2.2.2.1,h3.2.2.2.2.2.2.2.1⟩⟩
  ·simp at h
theorem K8{p q:Nat}{R C:Int}{g g':G}{l:List (Int×Int)}(hl8:l.length=8)(hd:Dim R C)(hf:Fil H p q R C g)(hlp:lo<=p)(hlo:lo<=q)(h:jC (aZ R C) g l=some g') :
  Ev cp lo 180 [.pointer (some ⟨p,0,none⟩),.agg (cN l).toArray,.func (.func 132) #[.pointer (some ⟨p,0,none⟩)] #[]] H (fun _ H'=>Fil H' p q R C g'/\Ch p q H H'):=by
 unfold jC at h;split at h
 ·rename_i g2 hg
  cases h;have hpl:=Heap.get_lt hf.fp;have hql:=Heap.get_lt hf.fq;have hpv:=sn l;rw[hl8]at hpv;refine stG rfl rfl ?_;unfold Ip;simp only[kB,aB];refine aU ?_;refine aY (fun m S H'=>∃(k:Nat) (x y z w:Value) (g1:G),k<=8/\m=8-k/\S=[.pointer (some ⟨p,0,none⟩),.agg (cN l).toArray,.func (.func 132) #[.pointer (some ⟨p,0,none⟩)] #[],.pointer (some ⟨H.length,0,none⟩),x,y,.agg (cN l).toArray,.int .i64 k,z,w]/\Fil H' p q R C g1/\Ch p q H H'/\goG (aZ R C) g1 (l.drop k) k=some g2) 8 ?_ ?_
  ·exact⟨0,_,_,_,_,g,byO,byO,by rw[List.take_of_length_le byO];rfl,hf.mono (Ext.app _ _),Ch.app _ _,by simpa using hg⟩
  rintro m S H1 ⟨k,x,y,z,w,g1,hk,rfl,rfl,hf1,hch,hgo⟩;have hlen1:=hch.len;(try simp only[aB]);refine cJ ?_ ?_<;>intro h
  ·have hk8:k<8:=by simp at h;omega
   have he:=BG (l:=l) (k:=k) byO;have hsz:(cN l).toArray.size=16:=by simp[hpv]
   rw[ke byO]at hgo;simp only[goG]at hgo;split at hgo
   ·rename_i g3 ha
    refine aU ?_;refine dH ?_;refine aA (Bm (q:=q) hd (hf1.mono (Ext.app _ _)) hlo byO ha) ?_;rintro v H2 rfl;refine aU ?_;simp only[ak];have hlq:=tU ha;refine⟨8-(k+1),byO,k+1,_,_,_,_,g3,byO,rfl,by simp only[ap₀,Int.natCast_one];rfl,(hf1.mono (Ext.app _ _)).setq hlq.1 hlq.2,(hch.trans (Ch.app _ _)).trans (Ch.setq _ _),by simpa using hgo⟩
   ·simp at hgo
  ·have hk8:k=8:=by simp at h;omega
   subst hk8;rw[List.drop_of_length_le byO]at hgo;simp only[goG]at hgo;cases hgo;have fp:=hf1.fp;have hplen:=Heap.get_lt fp;have hnx:=pO hg;have hnb:=hnx.2.2 (by intro e;rw[e]at hl8;simp at hl8);rw[<-hnx.2.1]at hnb;clear hnx;refine aU ?_;refine dI (by simp(disch:=try exact dO)only[evB,xtr, *];rfl) ?_;refine⟨⟨by rw[aF hplen];rfl,by rw[aH hf1.ne];exact hf1.fq,hf1.ne⟩,hch.trans (Ch.setp _ _)⟩
 ·simp at h
theorem nE{p q:Nat}{R C:Int}{g g':G}{arr:Array Value}(l:List (Int×Int))(ha:arr=(cN l).toArray)(hl8:l.length=8)(hd:Dim R C)(hf:Fil H p q R C g)(hlp:lo<=p)(hlo:lo<=q)(h:jC (aZ R C) g l=some g') :
  Ev cp lo 180 [.pointer (some ⟨p,0,none⟩),.agg arr,.func (.func 132) #[.pointer (some ⟨p,0,none⟩)] #[]] H (fun _ H'=>Fil H' p q R C g'/\Ch p q H H'):=by
 subst ha;exact K8 hl8 hd hf hlp hlo h
theorem eS{r c:Int}(h:inB r c=true):-4000<=r/\r<=4000/\-4000<=c/\c<=4000:=by
 simp only[inB,ac₀,af₀]at h;omega
theorem zc{p q:Nat}{R C:Int}{g g':G}{r c:Int}(hb:inB r c=true)(hd:Dim R C)(hf:Fil H p q R C g)(hlp:lo<=p)(hlo:lo<=q)(h:jC (aZ R C) g (pl r c)=some g') :
  Ev cp lo 135 [.pointer (some ⟨p,0,none⟩),.int .i64 r,.int .i64 c,.func (.func 132) #[.pointer (some ⟨p,0,none⟩)] #[]] H (fun _ H'=>Fil H' p q R C g'/\Ch p q H H'):=by
 obtain⟨b1,b2,b3,b4⟩:=eS hb;refine stG rfl rfl ?_;unfold IP;simp only[kB,aB];refine dH ?_;refine aA (nE (pl r c) (by simp only[cN,pl,List.flatMap_cons,List.flatMap_nil,am₀,List.nil_append]) rfl hd hf hlp hlo h) ?_;rintro v H2 hh;refine dI (by simp(disch:=try exact dO)only[evB,xtr, *];rfl) ?_;exact hh
set_option maxHeartbeats 4000000 in
theorem AZ{p q:Nat}{R C:Int}{g g':G}{r c:Int}(hd:Dim R C)(hf:Fil H p q R C g)(hlp:lo<=p)(hlo:lo<=q)(h:ep (aZ R C) R C g r c=some g') :
  Ev cp lo 133 [.pointer (some ⟨p,0,none⟩),.int .i64 r,.int .i64 c,.func (.func 132) #[.pointer (some ⟨p,0,none⟩)] #[]] H (fun _ H'=>Fil H' p q R C g'/\Ch p q H H'):=by
 have hd':=hd;obtain⟨r0,r1,c0,c1⟩:=hd';have fp:=hf.fp;unfold ep at h;split at h
 ·simp at h
 rename_i ga ha;split at h
 ·simp at h
 rename_i gb hb;split at h
 ·simp at h
 rename_i gc hc;have hlast:=h;clear h;refine stG rfl rfl ?_;unfold IM;simp only[kB,aB];refine aU ?_;clear fp;refine eI (fun S' H'=>S'=[.pointer (some ⟨p,0,none⟩),.int .i64 r,.int .i64 c,.func (.func 132) #[.pointer (some ⟨p,0,none⟩)] #[],.int .i64 R,.int .i64 C]/\Fil H' p q R C ga/\Ch p q H H') ?_ ?_
 ·refine cJ ?_ ?_<;>intro h
  ·have e:k1 R r c=true:=h
   rw[e]at ha;(try simp only[aB]);refine dH ?_;refine aA (nE (YtmnlgdpdgjbfgaaGreat.c1 R C) (by simp only[cN,YtmnlgdpdgjbfgaaGreat.c1,List.flatMap_cons,List.flatMap_nil,am₀,List.nil_append]) rfl hd hf hlp hlo ha) ?_;rintro v H2 hh;(try simp only[aB]);exact⟨by trivial,hh⟩
  ·have e:k1 R r c=false:=h
   rw[e]at ha;cases ha;(try simp only[aB]);exact⟨by trivial,hf,Ch.refl _⟩
 rintro S' H1 ⟨rfl,hf1,hc1⟩;(try simp only[aB]);refine eI (fun S' H'=>S'=[.pointer (some ⟨p,0,none⟩),.int .i64 r,.int .i64 c,.func (.func 132) #[.pointer (some ⟨p,0,none⟩)] #[],.int .i64 R,.int .i64 C]/\Fil H' p q R C gb/\Ch p q H H') ?_ ?_
 ·refine cJ ?_ ?_<;>intro h
  ·have e:k2 R C r c=true:=h
   rw[e]at hb;(try simp only[aB]);refine dH ?_;refine aA (nE (YtmnlgdpdgjbfgaaGreat.c2 R C) (by simp only[cN,YtmnlgdpdgjbfgaaGreat.c2,List.flatMap_cons,List.flatMap_nil,am₀,List.nil_append]) rfl hd hf1 hlp hlo hb) ?_;rintro v H2 hh;(try simp only[aB]);exact⟨by trivial,hh.1,hc1.trans hh.2⟩
  ·have e:k2 R C r c=false:=h
   rw[e]at hb;cases hb;(try simp only[aB]);exact⟨by trivial,hf1,hc1⟩
 rintro S' H2 ⟨rfl,hf2,hc2⟩;(try simp only[aB]);refine eI (fun S' H'=>S'=[.pointer (some ⟨p,0,none⟩),.int .i64 r,.int .i64 c,.func (.func 132) #[.pointer (some ⟨p,0,none⟩)] #[],.int .i64 R,.int .i64 C]/\Fil H' p q R C gc/\Ch p q H H') ?_ ?_
 ·refine cJ ?_ ?_<;>intro h
  ·have e:k3 R C r c=true:=h
   rw[e]at hc;(try simp only[aB]);refine dH ?_;refine aA (nE (YtmnlgdpdgjbfgaaGreat.c3 R C) (by simp only[cN,YtmnlgdpdgjbfgaaGreat.c3,List.flatMap_cons,List.flatMap_nil,am₀,List.nil_append]) rfl hd hf2 hlp hlo hc) ?_;rintro v H2 hh;(try simp only[aB]);exact⟨by trivial,hh.1,hc2.trans hh.2⟩
  ·have e:k3 R C r c=false:=h
   rw[e]at hc;cases hc;(try simp only[aB]);exact⟨by trivial,hf2,hc2⟩
 rintro S' H3 ⟨rfl,hf3,hc3⟩;(try simp only[aB]);refine cJ ?_ ?_<;>intro h
 ·have e:k4 R C r c=true:=h
  rw[e]at hlast;(try simp only[aB]);refine dH ?_;refine aA (nE (YtmnlgdpdgjbfgaaGreat.c4 R C) (by simp only[cN,YtmnlgdpdgjbfgaaGreat.c4,List.flatMap_cons,List.flatMap_nil,am₀,List.nil_append]) rfl hd hf3 hlp hlo hlast) ?_;rintro v H2 hh;(try simp only[aB]);refine dI (by simp(disch:=try exact dO)only[evB,xtr, *];rfl) ?_;exact⟨hh.1,hc3.trans hh.2⟩
 ·have e:k4 R C r c=false:=h
  rw[e]at hlast;cases hlast;(try simp only[aB]);refine dI (by simp(disch:=try exact dO)only[evB,xtr, *];rfl) ?_;exact⟨hf3,hc3⟩
open Go.Abs
theorem Bi{n:Int}(h0:0<=n)(h1:n<4294967296):((BitVec.ofInt 64 n &&& BitVec.ofInt 64 4294967295).toNat:Int)=n:=by
 obtain⟨m,rfl⟩:∃m:Nat,n=m:=⟨n.toNat,byO⟩;have e:(BitVec.ofInt 64 (m:Int)).toNat=m:=by simp[BitVec.toNat_ofInt];omega
 rw[BitVec.toNat_and,e];have e2:(BitVec.ofInt 64 4294967295).toNat=2^32-1:=by decide
 rw[e2,Nat.and_two_pow_sub_one_eq_mod];omega
theorem OW{n:Int}(h0:0<=n)(h1:n<4294967296):Ev cp lo 201 [.int .u64 1,.int .u64 n] H (fun v H'=>H'=H/\v=.tuple #[.int .u64 0,.int .u64 n]):=by
 have e1:IntKind.u64.wrap ((BitVec.ofInt IntKind.u64.bits 1 &&& BitVec.ofInt IntKind.u64.bits 4294967295).toNat:Int)=1:=by decide
 have e2:IntKind.u64.wrap ((BitVec.ofInt IntKind.u64.bits n &&& BitVec.ofInt IntKind.u64.bits 4294967295).toNat:Int)=n:=by
  rw[show IntKind.u64.bits=64 from rfl,Bi h0 h1];exact wk h0 byO
 have e3:IntKind.u64.wrap ((BitVec.ofInt IntKind.u64.bits 0 &&& BitVec.ofInt IntKind.u64.bits 4294967295).toNat:Int)=0:=by decide
 have e4:Int.fdiv 1 (2^(min (Int.toNat 32) IntKind.u64.bits))=0:=by decide
 have e5:Int.fdiv n (2^(min (Int.toNat 32) IntKind.u64.bits))=0:=by
  rw[show(2:Int)^(min (Int.toNat 32) IntKind.u64.bits)=4294967296 by decide,Int.fdiv_eq_ediv_of_nonneg _ byO];omega
 have e6:Int.fdiv 0 (2^(min (Int.toNat 32) IntKind.u64.bits))=0:=by decide
 refine stG rfl rfl ?_;unfold Iz;simp only[kB,aB];refine aU ?_;have e7:IntKind.u64.wrap 0=0:=by decide
 simp only[e1,e2,e3,e4,e5,e6,e7,Int.zero_mul,Int.one_mul,Int.mul_zero,Int.zero_add,Int.add_zero];refine dU ?_;exact⟨rfl,rfl⟩
theorem OV{n:Int}(h0:0<=n)(h1:n<4294967296):Ev cp lo 179 [.int .u64 1,.int .u64 n] H (fun v H'=>H'=H/\v=.tuple #[.int .u64 0,.int .u64 n]):=by
 refine stG rfl rfl ?_;unfold Io;simp only[kB,aB];refine aU ?_;refine cJ ?_ ?_<;>intro h
 ·cases h
 (try simp only[aB]);refine dH ?_;refine aA (OW h0 h1) ?_;rintro v H1 ⟨rfl,rfl⟩;refine aU ?_;refine dU ?_;exact⟨rfl,rfl⟩
theorem EM{i:Nat}{n:Int}(h0:1<=n)(h1:n<1000000)(hlo:lo<=H.length)(hg:H.get i=some [.int .i64 (-1)]) :
  Ev cp lo 131 [.slice (some ⟨i,0,none⟩) 1 1,.int .i64 n] H (fun v H'=>Ext H H'/\v=.slice (some ⟨H.length,0,none⟩) n.toNat n.toNat/\H'.get H.length=some (bN (List.replicate n.toNat (-1)))):=by
 have hil:=Heap.get_lt hg;have hg':H.get i=some (bN [-1]):=hg;clear hg;refine stG rfl rfl ?_;unfold IK;simp only[kB,aB];refine aU ?_;refine cJ ?_ ?_<;>intro h
 ·simp at h;omega
 clear h;(try simp only[aB]);refine dH ?_;refine aA (OV (n:=n) byO byO) ?_;rintro v H1 ⟨rfl,rfl⟩;refine aU ?_;refine cJ ?_ ?_<;>intro h
 ·simp at h;omega
 clear h;(try simp only[aB]);obtain⟨N,rfl⟩:∃N:Nat,n=N:=⟨n.toNat,byO⟩;have hN:1<=N:=byO;have hm1:min 1 N=1:=byO;have hm2:(bN (List.replicate N 0)).length=N:=by simp[bN]
 have hm3:(List.replicate N (0:Int)).length=N:=by simp
 refine aU ?_;refine aY (fun m S H'=>∃(k:Nat) (a b x y:Value),1<=k/\k<=N/\m=N-k/\S=[.slice (some ⟨i,0,none⟩) 1 1,.int .i64 N,.slice none 0 0,.int .u64 0,.int .u64 N,.slice (some ⟨H1.length,0,none⟩) N N,.int .i64 k,a,b,.int .i64 1,x,y]/\H'=H1++[some (bN (List.replicate k (-1)++List.replicate (N-k) 0))]) (N-1) ?_ ?_
 ·refine⟨1,_,_,_,_,byO,byO,rfl,rfl,?_⟩
  congr 2;rw[kj];congr 1;simp
 rintro m S H2 ⟨k,xa,xb,x,y,hk1,hk2,rfl,rfl,rfl⟩;(try simp only[aB]);refine cJ ?_ ?_<;>intro h
 ·have hk:k<N:=by simp at h;omega
  clear h;have hl:(List.replicate k (-1)++List.replicate (N-k) (0:Int)).length=N:=by simp;omega
  generalize hmn:min k (N-k)=w;have hw:w<=k/\w<=N-k/\1<=w:=byO;refine aU ?_;simp only[ak];refine⟨N-(k+w),byO,k+w,_,_,_,_,byO,byO,rfl,by simp only[ap₀];rfl,?_⟩;congr 4;have e1:List.take k (List.replicate k (-1)++List.replicate (N-k) (0:Int))=List.replicate k (-1):=by simp
  have e2:List.take w (List.replicate k (-1)++List.replicate (N-k) (0:Int))=List.replicate w (-1):=by
   rw[List.take_append_of_le_length (by simp;omega),List.take_replicate,Nat.min_eq_left hw.1]
  have e3:List.drop (k+min w N) (List.replicate k (-1)++List.replicate (N-k) (0:Int))=List.replicate (N-(k+w)) 0:=by
   rw[Nat.min_eq_left byO,List.drop_append,List.drop_of_length_le (by simp)];simp;omega
  rw[e1,e2,e3,<-List.append_assoc,List.replicate_append_replicate]
 ·have hk:k=N:=by simp at h;omega
  subst hk;clear h;refine aU ?_;refine dU ?_;refine⟨Ext.app _ _,rfl,?_⟩;simp(disch:=try exact dO)only[evB,xtr, *];simp
theorem vV{R C:Int}{g g':G}{l:List (Int×Int)}(h:jC (aZ R C) g l=some g'):g'.cells.length=g.cells.length:=by
 unfold jC at h;split at h
 ·rename_i g1 h1;cases h;exact(pO h1).1
 ·simp at h
theorem gO{R C:Int}{g g':G}{r c:Int}(h:j6 (aZ R C) g r c=some g'):g'.cells.length=g.cells.length:=by
 unfold j6 at h;split at h
 ·exact vV h
 ·cases h;rfl
theorem pL{R C:Int}{b:Bool}{g g':G}{l:List (Int×Int)}(h:jl (aZ R C) b g l=some g'):g'.cells.length=g.cells.length:=by
 unfold jl at h;split at h
 ·exact vV h
 ·cases h;rfl
theorem o8{R C:Int}{g g':G}{r c:Int}(h:ep (aZ R C) R C g r c=some g'):g'.cells.length=g.cells.length:=by
 unfold ep at h;split at h
 ·simp at h
 rename_i ga ha;split at h
 ·simp at h
 rename_i gb hb;split at h
 ·simp at h
 rename_i gc hc;rw[pL h,pL hc,pL hb,pL ha]
theorem yT{R C:Int}:∀{k:Nat} {g g':G} {r c r' c':Int},upG (aZ R C) C k g r c=some (g',r',c')->g'.cells.length=g.cells.length/\-4002<=r'/\r'<=4002/\-4002<=c'/\c'<=4002
 | 0,_,_,_,_,_,_,h=>by simp[upG]at h
 | k+1,g,g',r,c,r',c',h=>by
  simp only[upG,kM]at h;split at h
  ·rename_i hb
   have hb:=eS hb;split at h
   ·simp at h
   rename_i g1 h1;split at h
   ·have:=yT h;rw[gO h1]at this;exact this
   ·cases h;exact⟨gO h1,byO,byO,byO,byO⟩
  ·simp at h
theorem qE{R C:Int}:∀{k:Nat} {g g':G} {r c r' c':Int},gQ (aZ R C) R k g r c=some (g',r',c')->g'.cells.length=g.cells.length/\-4002<=r'/\r'<=4002/\-4002<=c'/\c'<=4002
 | 0,_,_,_,_,_,_,h=>by simp[gQ]at h
 | k+1,g,g',r,c,r',c',h=>by
  simp only[gQ,kM]at h;split at h
  ·rename_i hb
   have hb:=eS hb;split at h
   ·simp at h
   rename_i g1 h1;split at h
   ·have:=qE h;rw[gO h1]at this;exact this
   ·cases h;exact⟨gO h1,byO,byO,byO,byO⟩
  ·simp at h
set_option maxHeartbeats 4000000 in
theorem Gk{R C:Int}{gf:G}(hd:Dim R C)(hlo:lo<=H.length)(h:wL R C=some gf) :
  Ev cp lo 78 [.int .i64 R,.int .i64 C] H (fun v H'=>Ext H H'/\∃q,H.length<=q/\v=.slice (some ⟨q,0,none⟩) gf.cells.length gf.cells.length/\H'.get q=some (bN gf.cells)):=by
 have hd':=hd;obtain⟨r0,r1,c0,c1⟩:=hd';have hm:=dF (a:=R) (b:=C) (A:=200) (B:=200) byO byO byO c1 byO;have hm1:6*C<=R*C:=Int.mul_le_mul_of_nonneg_right r0 byO;refine stG rfl rfl ?_;unfold NW;simp only[kB,aB];refine aU ?_;refine dH ?_;refine aA (EM (lo:=lo) (H:=H++[some [Value.int .i64 (-1)]]) (n:=R*C) (i:=H.length) byO byO (by simp;omega) Hc) ?_;rintro v H1 ⟨hx,rfl,hq⟩;have hx0:=hx.of_app;have hl1:=hx.1;simp only[as₀,ak₀,an₀]at hq hl1;generalize hqq:H.length+(0+1)=q at *;have hql:=Heap.get_lt hq;refine aU ?_;have hf:Fil (H1++[some [.int .i64 R,.int .i64 C,.slice (some ⟨q,0,none⟩) (R*C).toNat (R*C).toNat,.int .i64 0]]) H1.length q R C ⟨0,List.replicate (R*C).toNat (-1)⟩:=by
  refine⟨?_,?_,byO⟩
  ·rw[aK];simp
  ·rw[dN hql];exact hq
 generalize hp:H1.length=p at *;unfold wL at h;generalize hg0:(⟨0,List.replicate (R*C).toNat (-1)⟩:G)=g0 at *;have hlen0:(g0.cells.length:Int)=R*C:=by rw[<-hg0];simp;omega
 generalize hH2:H1++[some [.int .i64 R,.int .i64 C,.slice (some ⟨q,0,none⟩) (R*C).toNat (R*C).toNat,.int .i64 0]]=H2 at *;have hch0:∀i,i<H.length->H2.get i=H.get i:=by
  intro i hi;rw[<-hH2,dN byO];exact hx0.2 i hi
 have hl2:H1.length<=H2.length:=by rw[<-hH2];simp
 have hlp:lo<=p:=byO;have hlq:lo<=q:=byO;have hHp:H.length<=p:=byO;have hHq:H.length<=q:=byO;generalize hy12:Value.slice (some ⟨H.length,0,none⟩) 1 1=y12;generalize hy13:Value.slice (some ⟨q,0,none⟩) (R*C).toNat (R*C).toNat=y13;refine aY (fun m S H'=>∃(t:Bool) (r c:Int) (g:G) (a8 a9 a15 a16:Value),S=[.int .i64 R,.int .i64 C,.slice none 0 0,.pointer (some ⟨p,0,none⟩),.func (.func 132) #[.pointer (some ⟨p,0,none⟩)] #[],.int .i64 r,.int .i64 c,.bool t,a8,a9,.int .i64 R,.int .i64 C,y12,y13,.pointer (some ⟨p,0,none⟩),a15,a16]/\Fil H' p q R C g/\(g.cells.length:Int)=R*C/\(∀i,i<H.length->H'.get i=H.get i)/\H.length<=H'.length /\
  ((t=true/\∃k,m=k+1/\oG (aZ R C) R C k g r c=some gf)\/(t=false/\m=0/\g=gf))) 201 ?_ ?_
 ·exact⟨true,4,0,g0,_,_,_,_,rfl,hf,hlen0,hch0,byO,.inl ⟨rfl,200,rfl,h⟩⟩
 rintro m S H3 ⟨t,r,c,g,a8,a9,a15,a16,rfl,hf3,hlen3,hch3,hl3,hcase⟩;(try simp only[aB]);refine cJ ?_ ?_<;>intro h
 ·subst h
  rcases hcase with ⟨_,k,rfl,hout⟩|⟨e,_⟩;rotate_left
  ·cases e
  cases k with
  | zero=>simp[oG]at hout
  | succ k=>
  simp only[oG,kM]at hout;split at hout;rotate_left
  ·simp at hout
  rename_i hinB;have hb:=eS hinB;split at hout
  ·simp at hout
  rename_i g4 hg4;split at hout
  ·simp at hout
  rename_i g5 ra ca hg5;split at hout
  ·simp at hout
  rename_i g6 rb cb hg6;have bl5:=yT hg5;have bl6:=qE hg6;have bl4:=o8 hg4;(try simp only[aB]);refine dH ?_;refine aA (AZ hd hf3 hlp hlq hg4) ?_;rintro v H4 ⟨hf4,hc4⟩;refine aU ?_;have hlen4:(g4.cells.length:Int)=R*C:=by rw[bl4];exact hlen3
  have hch4:∀i,i<H.length->H4.get i=H.get i:=fun i hi=>by rw[hc4.get i byO byO byO];exact hch3 i hi
  have hl4:H.length<=H4.length:=Nat.le_trans hl3 hc4.len;refine y6 (fun S H'=>∃(a8 a9 a15 a16:Value),S=[.int .i64 R,.int .i64 C,.slice none 0 0,.pointer (some ⟨p,0,none⟩),.func (.func 132) #[.pointer (some ⟨p,0,none⟩)] #[],.int .i64 ra,.int .i64 ca,.bool true,a8,a9,.int .i64 R,.int .i64 C,y12,y13,.pointer (some ⟨p,0,none⟩),a15,a16]/\Fil H' p q R C g5/\(∀i,i<H.length->H'.get i=H.get i)/\H.length<=H'.length) ?_ ?_
  ·(try simp only[aB])
   refine aY (fun m S H'=>∃(t:Bool) (r c:Int) (g:G) (a9 a15 a16:Value),S=[.int .i64 R,.int .i64 C,.slice none 0 0,.pointer (some ⟨p,0,none⟩),.func (.func 132) #[.pointer (some ⟨p,0,none⟩)] #[],.int .i64 r,.int .i64 c,.bool true,.bool t,a9,.int .i64 R,.int .i64 C,y12,y13,.pointer (some ⟨p,0,none⟩),a15,a16]/\Fil H' p q R C g/\(g.cells.length:Int)=R*C/\(∀i,i<H.length->H'.get i=H.get i)/\H.length<=H'.length /\
    ((t=true/\∃k,m=k+1/\upG (aZ R C) C k g r c=some (g5,ra,ca))\/(t=false/\m=0/\g=g5/\r=ra/\c=ca))) 201 ?_ ?_
   ·exact⟨true,r,c,g4,_,_,_,rfl,hf4,hlen4,hch4,hl4,.inl ⟨rfl,200,rfl,hg5⟩⟩
   rintro m S H5 ⟨t,r,c,g,a9,a15,a16,rfl,hf5,hlen5,hch5,hl5,hcase⟩;(try simp only[aB]);refine cJ ?_ ?_<;>intro h
   ·subst h
    rcases hcase with ⟨_,k,rfl,hup⟩|⟨e,_⟩;rotate_left
    ·cases e
    cases k with
    | zero=>simp[upG]at hup
    | succ k=>
    simp only[upG,kM]at hup;split at hup;rotate_left
    ·simp at hup
    rename_i hinB;have hb:=eS hinB;split at hup
    ·simp at hup
    rename_i g7 hg7;have hlen7:(g7.cells.length:Int)=R*C:=by rw[gO hg7];exact hlen5
    (try simp only[aB]);refine dH ?_;refine aA (Cz hd hf5 hlen5) ?_;rintro v H6 ⟨rfl,rfl⟩;(try simp only[aB]);refine eI (fun S H'=>∃(a9 a15 a16:Value),S=[.int .i64 R,.int .i64 C,.slice none 0 0,.pointer (some ⟨p,0,none⟩),.func (.func 132) #[.pointer (some ⟨p,0,none⟩)] #[],.int .i64 r,.int .i64 c,.bool true,.bool true,a9,.int .i64 R,.int .i64 C,y12,y13,.pointer (some ⟨p,0,none⟩),a15,a16]/\Fil H' p q R C g7/\(∀i,i<H.length->H'.get i=H.get i)/\H.length<=H'.length) ?_ ?_
    ·refine cJ ?_ ?_<;>intro h
     ·simp only[j6,h,if_true]at hg7
      (try simp only[aB]);refine dH ?_;refine aA (zc hinB hd hf5 hlp hlq hg7) ?_;rintro v H7 ⟨hf7,hc7⟩;(try simp only[aB]);exact⟨_,_,_,rfl,hf7,fun i hi=>by rw[hc7.get i byO byO byO];exact hch5 i hi,Nat.le_trans hl5 hc7.len⟩
     ·simp only[j6,h]at hg7
      cases hg7;(try simp only[aB]);exact⟨_,_,_,rfl,hf5,hch5,hl5⟩
    rintro S H7 ⟨b9,b15,b16,rfl,hf7,hch7,hl7⟩;refine aU ?_;simp only[ak];split at hup
    ·rename_i hcond
     refine⟨k+1,byO,_,r-2,c+2,g7,_,_,_,rfl,hf7,hlen7,hch7,hl7,.inl ⟨by simp;omega,k,rfl,hup⟩⟩
    ·rename_i hcond
     simp only[ab₀,ad₀]at hup;refine⟨0,byO,_,r-2,c+2,g7,_,_,_,rfl,hf7,hlen7,hch7,hl7,.inr ⟨by simp;omega,rfl,hup.1,hup.2.1,hup.2.2⟩⟩
   ·subst h
    rcases hcase with ⟨e,_⟩|⟨_,_,rfl,rfl,rfl⟩
    ·cases e
    (try simp only[aB]);exact⟨_,_,_,_,rfl,hf5,hch5,hl5⟩
  rintro S H5 ⟨b8,b9,b15,b16,rfl,hf5,hch5,hl5⟩;refine aU ?_;have hlen5:(g5.cells.length:Int)=R*C:=by rw[bl5.1];exact hlen4
  refine y6 (fun S H'=>∃(a8 a9 a15 a16:Value),S=[.int .i64 R,.int .i64 C,.slice none 0 0,.pointer (some ⟨p,0,none⟩),.func (.func 132) #[.pointer (some ⟨p,0,none⟩)] #[],.int .i64 rb,.int .i64 cb,.bool true,a8,a9,.int .i64 R,.int .i64 C,y12,y13,.pointer (some ⟨p,0,none⟩),a15,a16]/\Fil H' p q R C g6/\(∀i,i<H.length->H'.get i=H.get i)/\H.length<=H'.length) ?_ ?_
  ·(try simp only[aB])
   refine aY (fun m S H'=>∃(t:Bool) (r c:Int) (g:G) (a8 a15 a16:Value),S=[.int .i64 R,.int .i64 C,.slice none 0 0,.pointer (some ⟨p,0,none⟩),.func (.func 132) #[.pointer (some ⟨p,0,none⟩)] #[],.int .i64 r,.int .i64 c,.bool true,a8,.bool t,.int .i64 R,.int .i64 C,y12,y13,.pointer (some ⟨p,0,none⟩),a15,a16]/\Fil H' p q R C g/\(g.cells.length:Int)=R*C/\(∀i,i<H.length->H'.get i=H.get i)/\H.length<=H'.length /\
    ((t=true/\∃k,m=k+1/\gQ (aZ R C) R k g r c=some (g6,rb,cb))\/(t=false/\m=0/\g=g6/\r=rb/\c=cb))) 201 ?_ ?_
   ·exact⟨true,ra+1,ca+3,g5,_,_,_,rfl,hf5,hlen5,hch5,hl5,.inl ⟨rfl,200,rfl,hg6⟩⟩
   rintro m S H6 ⟨t,r,c,g,a8,a15,a16,rfl,hf6,hlen6,hch6,hl6,hcase⟩;(try simp only[aB]);refine cJ ?_ ?_<;>intro h
   ·subst h
    rcases hcase with ⟨_,k,rfl,hup⟩|⟨e,_⟩;rotate_left
    ·cases e
    cases k with
    | zero=>simp[gQ]at hup
    | succ k=>
    simp only[gQ,kM]at hup;split at hup;rotate_left
    ·simp at hup
    rename_i hinB;have hb:=eS hinB;split at hup
    ·simp at hup
    rename_i g7 hg7;have hlen7:(g7.cells.length:Int)=R*C:=by rw[gO hg7];exact hlen6
    (try simp only[aB]);refine dH ?_;refine aA (Cz hd hf6 hlen6) ?_;rintro v H7 ⟨rfl,rfl⟩;(try simp only[aB]);refine eI (fun S H'=>∃(a8 a15 a16:Value),S=[.int .i64 R,.int .i64 C,.slice none 0 0,.pointer (some ⟨p,0,none⟩),.func (.func 132) #[.pointer (some ⟨p,0,none⟩)] #[],.int .i64 r,.int .i64 c,.bool true,a8,.bool true,.int .i64 R,.int .i64 C,y12,y13,.pointer (some ⟨p,0,none⟩),a15,a16]/\Fil H' p q R C g7/\(∀i,i<H.length->H'.get i=H.get i)/\H.length<=H'.length) ?_ ?_
    ·refine cJ ?_ ?_<;>intro h
     ·simp only[j6,h,if_true]at hg7
      (try simp only[aB]);refine dH ?_;refine aA (zc hinB hd hf6 hlp hlq hg7) ?_;rintro v H8 ⟨hf8,hc8⟩;(try simp only[aB]);exact⟨_,_,_,rfl,hf8,fun i hi=>by rw[hc8.get i byO byO byO];exact hch6 i hi,Nat.le_trans hl6 hc8.len⟩
     ·simp only[j6,h]at hg7
      cases hg7;(try simp only[aB]);exact⟨_,_,_,rfl,hf6,hch6,hl6⟩
    rintro S H8 ⟨b9,b15,b16,rfl,hf8,hch8,hl8⟩;refine aU ?_;simp only[ak];split at hup
    ·rename_i hcond
     refine⟨k+1,byO,_,r+2,c-2,g7,_,_,_,rfl,hf8,hlen7,hch8,hl8,.inl ⟨by simp;omega,k,rfl,hup⟩⟩
    ·rename_i hcond
     simp only[ab₀,ad₀]at hup;refine⟨0,byO,_,r+2,c-2,g7,_,_,_,rfl,hf8,hlen7,hch8,hl8,.inr ⟨by simp;omega,rfl,hup.1,hup.2.1,hup.2.2⟩⟩
   ·subst h
    rcases hcase with ⟨e,_⟩|⟨_,_,rfl,rfl,rfl⟩
    ·cases e
    (try simp only[aB]);exact⟨_,_,_,_,rfl,hf6,hch6,hl6⟩
  rintro S H6 ⟨d8,d9,d15,d16,rfl,hf6,hch6,hl6⟩;refine aU ?_;simp only[ak];have hlen6:(g6.cells.length:Int)=R*C:=by rw[bl6.1];exact hlen5
  split at hout
  ·rename_i hcond
   refine⟨k+1,byO,_,rb+3,cb+1,g6,_,_,_,_,rfl,hf6,hlen6,hch6,hl6,.inl ⟨by simp;omega,k,rfl,hout⟩⟩
  ·rename_i hcond
   cases hout;refine⟨0,byO,_,rb+3,cb+1,gf,_,_,_,_,rfl,hf6,hlen6,hch6,hl6,.inr ⟨by simp;omega,rfl,rfl⟩⟩
 ·subst h
  rcases hcase with ⟨e,_⟩|⟨_,_,rfl⟩
  ·cases e
  have fp:=hf3.fp;refine aU ?_;refine dU ?_;exact⟨⟨hl3,hch3⟩,q,hHq,rfl,hf3.fq⟩
end Go.Proofs.YtmnlgdpdgjbfgaaGreat
