/- Lemmas. -/
import Derived.Test.YtmnlgdpdgjbfgaaGreatW9
import Derived.Test.YtmnlgdpdgjbfgaaGreatW11
set_option linter.all false
namespace Go.Proofs.YtmnlgdpdgjbfgaaGreat
open Go.Abs
variable{i:Nat}
theorem GQ:∀f cf,cp f=some cf->bA cf=true:=mQ
structure Sz where
 r:Int
 c:Int
 rr:Int
 rc:Int
 d:Int
 k:Int
 b:Int
 deriving DecidableEq
def Sz.cells(s:Sz):List Value:=[.int .i64 s.r,.int .i64 s.c,.int .i64 s.rr,.int .i64 s.rc,.int .i64 s.d,.int .i64 s.k,.int .i64 s.b]
def Sz.zero:Sz:=⟨0,0,0,0,0,0,0⟩
def Sz.val(s:Sz):Value:=.agg #[.int .i64 s.r,.int .i64 s.c,.int .i64 s.rr,.int .i64 s.rc,.int .i64 s.d,.int .i64 s.k,.int .i64 s.b]
def szs:List Sz:=[⟨10,10,8,8,3,5,1⟩,⟨12,12,10,10,5,7,1⟩,⟨14,14,12,12,8,10,1⟩,⟨16,16,14,14,12,12,1⟩,⟨18,18,16,16,18,14,1⟩,⟨20,20,18,18,22,18,1⟩,⟨22,22,20,20,30,20,1⟩,⟨24,24,22,22,36,24,1⟩,⟨26,26,24,24,44,28,1⟩,⟨32,32,14,14,62,36,1⟩,⟨36,36,16,16,86,42,1⟩,⟨40,40,18,18,114,48,1⟩,⟨44,44,20,20,144,56,1⟩,⟨48,48,22,22,174,68,1⟩,⟨52,52,24,24,204,84,2⟩,⟨64,64,14,14,280,112,2⟩,⟨72,72,16,16,368,144,4⟩,⟨80,80,18,18,456,192,4⟩,⟨88,88,20,20,576,224,4⟩,⟨96,96,22,22,696,272,4⟩,⟨104,104,24,24,816,336,6⟩,⟨120,120,18,18,1050,408,6⟩,⟨132,132,20,20,1304,496,8⟩,⟨144,144,22,22,1558,620,10⟩,⟨8,18,6,16,5,7,1⟩,⟨8,32,6,14,10,11,1⟩,⟨12,26,10,24,16,14,1⟩,⟨12,36,10,16,22,18,1⟩,⟨16,36,14,16,32,24,1⟩,⟨16,48,14,22,49,28,1⟩]
def szCells:List Value:=szs.flatMap Sz.cells
set_option maxRecDepth 100000 in
theorem Rw:((run cp 40).ret 0 55 [] []).map (fun r=>(r.1,r.2.get 1))=some (.slice (some ⟨1,0,none⟩) 30 30,some szCells):=by kernel_rfl
theorem Jw:szCells.all bR=true:=by kernel_rfl
theorem qe{lo:Nat}{H:Heap}(hlo:lo<=H.length):Ev cp lo 55 [] H (fun v H'=>∃j,H.length<=j/\v=.slice (some ⟨j,0,none⟩) 30 30/\H'.get j=some szCells/\Ext H H'):=
 qP GQ rfl Rw Jw hlo
def bx(i:Nat):Sz:=szs.getD i Sz.zero
theorem gN:szs.length=30:=rfl
theorem g9:szCells.length=210:=by kernel_rfl
theorem Dw(l:List Sz):∀(i:Nat),i<l.length->((l.flatMap Sz.cells).drop (i*7)).take 7=(l.getD i Sz.zero).cells:=by
 induction l with
 | nil=>intro i h;simp at h
 | cons s l ih=>
  intro i h;cases i with
  | zero=>simp[Sz.cells]
  | succ i=>
   have:=ih i (by simpa using h);rw[Nat.succ_mul,List.flatMap_cons,List.drop_append];simp only[Sz.cells,ak₀,an₀];rw[show i*7+7-7=i*7 by omega];simpa[Sz.cells]using this
theorem jB(h:i<30):(szCells.drop (i*7)).take 7=(bx i).cells:=Dw szs i (by rw[gN];exact h)
theorem iL(h:i<30):szs.take (i+1)=szs.take i++[bx i]:=by
 rw[List.take_add_one];congr 1;unfold bx;rw[bc₀ (by rw[gN];exact h)];simp[List.getD,bc₀ (show i<szs.length by rw[gN];exact h)]
def jJ(n:Int)(sq:Bool)(best s:Sz):Sz:=
 if (sq=true/\s.r≠s.c)\/s.d<n then best else if best.d=0\/s.d<best.d then s else best
def fF(n:Int)(sq:Bool)(i:Nat):Sz:=(szs.take i).foldl (jJ n sq) Sz.zero
theorem kI{n:Int}{sq:Bool}(h:i<30):fF n sq (i+1)=jJ n sq (fF n sq i) (bx i):=by
 unfold fF;rw[iL h,List.foldl_append];rfl
def zP(n:Int)(sq:Bool):Sz×Int:=if n<1 then(Sz.zero,3) else if 1558<n then(Sz.zero,16) else(fF n sq 30,0)
namespace XJWfit
def xtr:=zzi @Sz.cells.eq_1 @Sz.val.eq_1
end XJWfit
open XJWfit
theorem QG{lo:Nat}{H:Heap}(n:Int)(sq:Bool)(hlo:lo<=H.length):Ev cp lo 39 [.int .i64 n,.bool sq] H (fun v H'=>Ext H H'/\v=.tuple #[(zP n sq).1.val,.int .i64 (zP n sq).2]):=by
 refine stG rfl rfl ?_;unfold PO;simp only[kB,aC];refine aX ?_;refine dF ?_ ?_<;>intro h
 ·simp only[af₀]at h
  refine aX ?_;refine dY ?_;exact⟨Ext.app _ _,by simp[aM,zP,h,Sz.zero,Sz.val]⟩
 simp only[ai₀,Int.not_lt]at h;(try simp only[aC]);refine dF ?_ ?_<;>intro h
 ·simp only[af₀]at h
  refine aX ?_;refine dY ?_;exact⟨Ext.app _ _,by simp[aM,zP,h,show ¬ n<1 by omega,Sz.zero,Sz.val]⟩
 rename_i h1;simp only[ai₀,Int.not_lt]at h;refine aX ?_;refine eD ?_;refine aA (qe (by simp;omega)) ?_;rintro v H1 ⟨j,hj,rfl,hg,hE⟩;have g0:H1.get H.length=some _:=hE.get ju;have g1:H1.get (H.length+1)=some _:=hE.get ju;have hx:=hE.of_app;have hl:=hE.1;simp only[as₀,ak₀,an₀]at hj hl;clear hE;refine aX ?_;refine bK (fun m S H'=>∃(i:Int) (x y:Value),0<=i/\i<=30/\m=(30-i).toNat/\S=[.int .i64 n,.bool sq,.pointer (some ⟨H.length,0,none⟩),.int .i64 0,.pointer (some ⟨H.length+1,0,none⟩),x,.slice (some ⟨j,0,none⟩) 30 30,.int .i64 30,.int .i64 i,y]/\Ext H H'/\j<H'.length/\H'.get H.length=some Sz.zero.cells/\H'.get (H.length+1)=some (fF n sq i.toNat).cells/\H'.get j=some szCells) 30 ?_ ?_
 ·exact⟨0,_,_,byO,byO,byO,rfl,hx,Heap.get_lt hg,g0,g1,hg⟩
 rintro m S H2 ⟨i,x,y,hi0,hi1,rfl,rfl,hx2,hj2,g0,g1,hg⟩;have hl2:=Heap.get_lt g1;(try simp only[aC]);refine dF ?_ ?_<;>intro h
 ·simp only[af₀]at h
  (try simp only[aC]);have hrow:=jB (i:=i.toNat) byO;have hlen:=g9;refine aX ?_;refine dF ?_ ?_<;>intro h
  ·refine aX ?_
   simp only[cM];refine⟨(30-(i+1)).toNat,by omega,i+1,_,_,by omega,by omega,rfl,rfl,hx2.trans (Ext.app _ _),by simp;omega,by simp(disch:=try exact dO)only[evB,xtr, *],?_,by simp(disch:=try exact dO)only[evB,xtr, *]⟩;have hc:(sq=true/\(bx i.toNat).r≠(bx i.toNat).c)\/(bx i.toNat).d<n:=by simpa using h
   rw[show(i+1).toNat=i.toNat+1 by omega,kI byO,jJ,if_pos hc];simp(disch:=try exact dO)only[evB,xtr, *]
  ·have hc:¬ ((sq=true/\(bx i.toNat).r≠(bx i.toNat).c)\/(bx i.toNat).d<n):=by
    intro hc;have:(sq&&decide ((bx i.toNat).r≠(bx i.toNat).c) || decide ((bx i.toNat).d<n))=true:=by simpa using hc
    rw[this]at h;cases h
   (try simp only[aC]);refine dF ?_ ?_<;>intro h
   ·have hd:(fF n sq i.toNat).d=0\/(bx i.toNat).d<(fF n sq i.toNat).d:=by simpa using h
    refine aX ?_;simp only[cM];refine⟨(30-(i+1)).toNat,by omega,i+1,_,_,by omega,by omega,rfl,rfl,(hx2.set (by omega)).trans (Ext.app _ _),by simp;omega,by simp(disch:=try exact dO)only[evB,xtr, *],?_,by simp(disch:=try exact dO)only[evB,xtr, *]⟩;rw[show(i+1).toNat=i.toNat+1 by omega,kI byO,jJ,if_neg hc,if_pos hd];simp(disch:=try exact dO)only[evB,xtr, *]
   ·have hd:¬ ((fF n sq i.toNat).d=0\/(bx i.toNat).d<(fF n sq i.toNat).d):=by
     intro hc;have:(decide ((fF n sq i.toNat).d=0) || decide ((bx i.toNat).d<(fF n sq i.toNat).d))=true:=by simpa using hc
     rw[this]at h;cases h
    refine aX ?_;simp only[cM];refine⟨(30-(i+1)).toNat,by omega,i+1,_,_,by omega,by omega,rfl,rfl,hx2.trans (Ext.app _ _),by simp;omega,by simp(disch:=try exact dO)only[evB,xtr, *],?_,by simp(disch:=try exact dO)only[evB,xtr, *]⟩;rw[show(i+1).toNat=i.toNat+1 by omega,kI byO,jJ,if_neg hc,if_neg hd];simp(disch:=try exact dO)only[evB,xtr, *]
 ·simp only[ai₀,Int.not_lt]at h
  obtain rfl:i=30:=byO;refine aX ?_;refine dY ?_;refine⟨hx2.set (Nat.le_refl _),?_⟩;simp[aM,zP,show ¬ n<1 by omega,show ¬ 1558<n by omega,Sz.val]
open Go.Abs
def fI{α:Type}(x:Int)(k:Int->α):α:=match x with
 | .ofNat 0=>k 0
 | .ofNat (n+1)=>k (.ofNat (n+1))
 | .negSucc n=>k (.negSucc n)
theorem oJ{α:Type}(x:Int)(k:Int->α):fI x k=k x:=by
 unfold fI;split<;>rfl
def fN{α:Type}(x:Nat)(k:Nat->α):α:=match x with
 | 0=>k 0
 | n+1=>k (n+1)
theorem en{α:Type}(x:Nat)(k:Nat->α):fN x k=k x:=by
 unfold fN;split<;>rfl
structure Ops (σ:Type) where
 asg:σ->Int->Int->Int->Option σ
 free:σ->Int->Int->Bool
 bump:σ->σ
def goG{σ:Type}(O:Ops σ):σ->List (Int×Int)->Int->Option σ
 | s,[],_=>some s
 | s,p::ps,bit=>match O.asg s p.1 p.2 bit with
  | some s'=>goG O s' ps (bit+1)
  | none=>none
def lI{σ:Type}(O:Ops σ)(s:σ)(l:List (Int×Int)):Option σ:=match goG O s l 0 with
 | some s'=>some (O.bump s')
 | none=>none
def pl(r c:Int):List (Int×Int):=[(r-2,c-2),(r-2,c-1),(r-1,c-2),(r-1,c-1),(r-1,c),(r,c-2),(r,c-1),(r,c)]
def sO{σ:Type}(O:Ops σ)(s:σ)(r c:Int):Option σ:=if O.free s r c=true then lI O s (pl r c) else some s
def c1(n w:Int):List (Int×Int):=[(n-1,0),(n-1,1),(n-1,2),(0,w-2),(0,w-1),(1,w-1),(2,w-1),(3,w-1)]
def c2(n w:Int):List (Int×Int):=[(n-3,0),(n-2,0),(n-1,0),(0,w-4),(0,w-3),(0,w-2),(0,w-1),(1,w-1)]
def c3(n w:Int):List (Int×Int):=[(n-3,0),(n-2,0),(n-1,0),(0,w-2),(0,w-1),(1,w-1),(2,w-1),(3,w-1)]
def c4(n w:Int):List (Int×Int):=[(n-1,0),(n-1,w-1),(0,w-3),(0,w-2),(0,w-1),(1,w-3),(1,w-2),(1,w-1)]
def kF{σ:Type}(O:Ops σ)(b:Bool)(s:σ)(l:List (Int×Int)):Option σ:=if b=true then lI O s l else some s
def k1(R r c:Int):Bool:=decide (r=R)&&decide (c=0)
def k2(R C r c:Int):Bool:=decide (r=R-2)&&decide (c=0)&&decide (C.tmod 4≠0)
def k3(R C r c:Int):Bool:=decide (r=R-2)&&decide (c=0)&&decide (C.tmod 8=4)
def k4(R C r c:Int):Bool:=decide (r=R+4)&&decide (c=2)&&decide (C.tmod 8=0)
def gT{σ:Type}(O:Ops σ)(R C:Int)(s:σ)(r c:Int):Option σ:=
 match kF O (k1 R r c) s (c1 R C)with
 | none=>none
 | some s=>match kF O (k2 R C r c) s (c2 R C)with
  | none=>none
  | some s=>match kF O (k3 R C r c) s (c3 R C)with
   | none=>none
   | some s=>kF O (k4 R C r c) s (c4 R C)
def inB(r c:Int):Bool:=decide (-4000<=r)&&decide (r<=4000)&&decide (-4000<=c)&&decide (c<=4000)
def upG{σ:Type}(O:Ops σ)(C:Int):Nat->σ->Int->Int->Option (σ×Int×Int)
 | 0,_,_,_=>none
 | k+1,s,r,c=>if inB r c=true then match sO O s r c with
  | none=>none
  | some s=>fI (r-2) fun r=>fI (c+2) fun c=>if 0<=r/\c<C then upG O C k s r c else some (s,r,c)
  else none
def km{σ:Type}(O:Ops σ)(R:Int):Nat->σ->Int->Int->Option (σ×Int×Int)
 | 0,_,_,_=>none
 | k+1,s,r,c=>if inB r c=true then match sO O s r c with
  | none=>none
  | some s=>fI (r+2) fun r=>fI (c-2) fun c=>if r<R/\0<=c then km O R k s r c else some (s,r,c)
  else none
def tO{σ:Type}(O:Ops σ)(R C:Int):Nat->σ->Int->Int->Option σ
 | 0,_,_,_=>none
 | k+1,s,r,c=>if inB r c=true then match gT O R C s r c with
  | none=>none
  | some s=>match upG O C 200 s r c with
   | none=>none
   | some (s,r,c)=>fI (r+1) fun r=>fI (c+3) fun c=>match km O R 200 s r c with
    | none=>none
    | some (s,r,c)=>fI (r+3) fun r=>fI (c+1) fun c=>if r<R\/c<C then tO O R C k s r c else some s
  else none
section refine
variable {σ τ:Type}{O:Ops σ}{O':Ops τ}{Rel:σ->τ->Prop}
structure Refines (O:Ops σ)(O':Ops τ)(Rel:σ->τ->Prop):Prop where
 asg:∀s t r c b s',Rel s t->O.asg s r c b=some s'->∃t',O'.asg t r c b=some t'/\Rel s' t'
 free:∀s t r c,Rel s t->O.free s r c=O'.free t r c
 bump:∀s t,Rel s t->Rel (O.bump s) (O'.bump t)
variable (h:Refines O O' Rel)
include h
theorem Refines.go:∀(l:List (Int×Int)) (s:σ) (t:τ) (b:Int) (s':σ),Rel s t->goG O s l b=some s'->∃t',goG O' t l b=some t'/\Rel s' t'
 | [],s,t,b,s',hr,e=>by simp only[goG]at e ⊢;cases e;exact⟨t,rfl,hr⟩
 | p::ps,s,t,b,s',hr,e=>by
  simp only[goG]at e ⊢;split at e
  ·rename_i s1 h1
   obtain⟨t1,h2,hr1⟩:=h.asg _ _ _ _ _ _ hr h1;rw[h2];exact Refines.go ps s1 t1 (b+1) s' hr1 e
  ·simp at e
theorem Refines.each(l:List (Int×Int))(s:σ)(t:τ)(s':σ)(hr:Rel s t)(e:lI O s l=some s'):∃t',lI O' t l=some t'/\Rel s' t':=by
 unfold lI at e ⊢;split at e
 ·rename_i s1 h1
  obtain⟨t1,h2,hr1⟩:=h.go _ _ _ _ _ hr h1;rw[h2];cases e;exact⟨_,rfl,h.bump _ _ hr1⟩
 ·simp at e
theorem Refines.eif(b:Bool)(l:List (Int×Int))(s:σ)(t:τ)(s':σ)(hr:Rel s t)(e:kF O b s l=some s'):∃t',kF O' b t l=some t'/\Rel s' t':=by
 unfold kF at e ⊢;cases b with
 | true=>exact h.each l s t s' hr e
 | false=>cases e;exact⟨t,rfl,hr⟩
theorem Refines.pif(r c:Int)(s:σ)(t:τ)(s':σ)(hr:Rel s t)(e:sO O s r c=some s'):∃t',sO O' t r c=some t'/\Rel s' t':=by
 unfold sO at e ⊢;rw[<-h.free s t r c hr];cases hf:O.free s r c with
 | true=>rw[hf]at e;exact h.each _ s t s' hr e
 | false=>rw[hf]at e;cases e;exact⟨t,rfl,hr⟩
theorem Refines.corners(R C r c:Int)(s:σ)(t:τ)(s':σ)(hr:Rel s t)(e:gT O R C s r c=some s'):∃t',gT O' R C t r c=some t'/\Rel s' t':=by
 unfold gT at e ⊢;split at e
 ·simp at e
 ·rename_i s1 e1
  obtain⟨t1,f1,r1⟩:=h.eif _ _ _ _ _ hr e1;split at e
  ·simp at e
  ·rename_i s2 e2
   obtain⟨t2,f2,r2⟩:=h.eif _ _ _ _ _ r1 e2;split at e
   ·simp at e
   ·rename_i s3 e3
    obtain⟨t3,f3,r3⟩:=h.eif _ _ _ _ _ r2 e3;obtain⟨t4,f4,r4⟩:=h.eif _ _ _ _ _ r3 e;exact⟨t4,by simp only[f1,f2,f3,f4],r4⟩
theorem Refines.up(C:Int):∀(k:Nat) (s:σ) (t:τ) (r c:Int) (s':σ) (r' c':Int),Rel s t->upG O C k s r c=some (s',r',c')->∃t',upG O' C k t r c=some (t',r',c')/\Rel s' t'
 | 0,_,_,_,_,_,_,_,_,e=>by simp[upG]at e
 | k+1,s,t,r,c,s',r',c',hr,e=>by
  simp only[upG,oJ]at e ⊢;split at e
  ·rename_i hb
   rw[if_pos hb];split at e
   ·simp at e
   ·rename_i s1 e1
    obtain⟨t1,f1,r1⟩:=h.pif _ _ _ _ _ hr e1;simp only[f1];split at e
    ·rename_i hc;rw[if_pos hc];exact Refines.up C k s1 t1 _ _ _ _ _ r1 e
    ·rename_i hc;rw[if_neg hc];cases e;exact⟨t1,rfl,r1⟩
  ·simp at e
theorem Refines.down(R:Int):∀(k:Nat) (s:σ) (t:τ) (r c:Int) (s':σ) (r' c':Int),Rel s t->km O R k s r c=some (s',r',c')->∃t',km O' R k t r c=some (t',r',c')/\Rel s' t'
 | 0,_,_,_,_,_,_,_,_,e=>by simp[km]at e
 | k+1,s,t,r,c,s',r',c',hr,e=>by
  simp only[km,oJ]at e ⊢;split at e
  ·rename_i hb
   rw[if_pos hb];split at e
   ·simp at e
   ·rename_i s1 e1
    obtain⟨t1,f1,r1⟩:=h.pif _ _ _ _ _ hr e1;simp only[f1];split at e
    ·rename_i hc;rw[if_pos hc];exact Refines.down R k s1 t1 _ _ _ _ _ r1 e
    ·rename_i hc;rw[if_neg hc];cases e;exact⟨t1,rfl,r1⟩
  ·simp at e
theorem Refines.out(R C:Int):∀(k:Nat) (s:σ) (t:τ) (r c:Int) (s':σ),Rel s t->tO O R C k s r c=some s'->∃t',tO O' R C k t r c=some t'/\Rel s' t'
 | 0,_,_,_,_,_,_,e=>by simp[tO]at e
 | k+1,s,t,r,c,s',hr,e=>by
  simp only[tO,oJ]at e ⊢;split at e
  ·rename_i hb
   rw[if_pos hb];split at e
   ·simp at e
   ·rename_i s1 e1
    obtain⟨t1,f1,r1⟩:=h.corners _ _ _ _ _ _ _ hr e1;simp only[f1];split at e
    ·simp at e
    ·rename_i s2 ra ca e2
     obtain⟨t2,f2,r2⟩:=h.up _ _ _ _ _ _ _ _ _ r1 e2;simp only[f2];split at e
     ·simp at e
     ·rename_i s3 rb cb e3
      obtain⟨t3,f3,r3⟩:=h.down _ _ _ _ _ _ _ _ _ r2 e3;simp only[f3];split at e
      ·rename_i hc;rw[if_pos hc];exact Refines.out R C k s3 t3 _ _ _ r3 e
      ·rename_i hc;rw[if_neg hc];cases e;exact⟨t3,rfl,r3⟩
  ·simp at e
end refine
def rowOf(R C r c:Int):Int:=let r1:=if r<0 then r+R else r;let c1:=if r<0 then c+(4-(R+4).tmod 8) else c;if c1<0 then r1+(4-(C+4).tmod 8) else r1
def Lf(R C r c:Int):Int:=let c1:=if r<0 then c+(4-(R+4).tmod 8) else c;if c1<0 then c1+C else c1
def ig(R C r c:Int):Int:=rowOf R C r c*C+Lf R C r c
structure G where
 next:Int
 cells:List Int
def OQ(R C r c:Int)(n:Nat):Bool:=inB r c&&decide (0<=ig R C r c)&&decide (ig R C r c<n)
def bm(R C:Int):Ops G where
 asg:=fun g r c b=>if OQ R C r c g.cells.length=true/\0<=g.next/\g.next<=100000 then some ⟨g.next,g.cells.set (ig R C r c).toNat (8*g.next+b)⟩ else none
 free:=fun g r c=>decide (0<=r)&&decide (r<R)&&decide (0<=c)&&decide (c<C)&&decide (g.cells.getD (r*C+c).toNat 0<0)
 bump:=fun g=>⟨g.next+1,g.cells⟩
structure M where
 bits:Nat
 next:Nat
 k:Nat
def okI(r c i:Int)(n:Nat):Bool:=inB r c&&decide (0<=i)&&decide (i<n)
def Mt{α:Type}(R C r c:Int)(k:Int->α):α:=
 fI (if r<0 then r+R else r) fun r1=>fI (if r<0 then c+(4-(R+4).tmod 8) else c) fun c1=>fI (if c1<0 then r1+(4-(C+4).tmod 8) else r1) fun r2=>fI (if c1<0 then c1+C else c1) fun c2=>fI (r2*C+c2) k
theorem Ik{α:Type}(R C r c:Int)(k:Int->α):Mt R C r c k=k (ig R C r c):=by simp only[Mt,oJ,ig,rowOf,Lf]
def ql(R C:Int)(n:Nat):Ops M where
 asg:=fun m r c b=>Mt R C r c fun i=>if okI r c i n=true/\m.next<=100000/\b=(m.k:Int)-8*m.next/\m.bits.testBit i.toNat=false then
   fN (m.bits ||| 2^i.toNat) fun b=>fN (m.k+1) fun k=>some ⟨b,m.next,k⟩ else none
 free:=fun m r c=>decide (0<=r)&&(decide (r<R)&&(decide (0<=c)&&(decide (c<C)&&!(m.bits.testBit (r*C+c).toNat))))
 bump:=fun m=>fN (m.next+1) fun n=>⟨m.bits,n,m.k⟩
structure MG (n:Nat)(m:M)(g:G):Prop where
 next:g.next=m.next
 len:g.cells.length=n
 bit:∀i,i<n->(m.bits.testBit i=true↔0<=g.cells.getD i (-1))
 neg:∀i,i<n->g.cells.getD i (-1)<0->g.cells.getD i (-1)=-1
 lt:∀i,i<n->g.cells.getD i (-1)<m.k
 inj:∀i j,i<n->j<n->0<=g.cells.getD i (-1)->g.cells.getD i (-1)=g.cells.getD j (-1)->i=j
 sur:∀v:Nat,v<m.k->∃i,i<n/\g.cells.getD i (-1)=v
 cnt:g.cells.countP (fun x=>decide (0<=x))=m.k
theorem ic{l:List Int}{i j:Nat}{v d:Int}(h:i<l.length):(l.set i v).getD j d=if j=i then v else l.getD j d:=by
 simp only[au₀,List.getElem?_set];by_cases e:i=j
 ·subst e;simp[h]
 ·rw[if_neg e,if_neg (fun h=>e h.symm)]
theorem countP_set{p:Int->Bool}:∀{l:List Int} {i:Nat} {v:Int},i<l.length->p (l.getD i (-1))=false->p v=true->(l.set i v).countP p=l.countP p+1
 | [],i,v,h,_,_=>by simp at h
 | a::l,0,v,_,h1,h2=>by
  simp at h1;simp[h1,h2]
 | a::l,i+1,v,h,h1,h2=>by
  have:=countP_set (p:=p) (l:=l) (i:=i) (v:=v) (by simpa using h) (by simpa using h1) h2;simp only[List.set_cons_succ,List.countP_cons,this];omega
theorem zb{R C r c:Int}(h0:0<=r)(h1:r<R)(h2:0<=c)(h3:c<C):0<=r*C+c/\r*C+c<R*C:=by
 have a:(r+1)*C<=R*C:=Int.mul_le_mul_of_nonneg_right byO byO;have b:0<=r*C:=Int.mul_nonneg h0 byO;rw[Int.add_mul]at a;omega
theorem zj{R C:Int}{n:Nat}(hRC:(n:Int)=R*C):Refines (ql R C n) (bm R C) (MG n) where
 asg:=by
  intro m g r c b m' hr h;simp only[ql,Ik,en]at h;split at h
  ·rename_i hc
   obtain⟨hok,hn,hb,hbit⟩:=hc;have hok':=hok;simp only[okI,ac₀,af₀]at hok';obtain⟨⟨hin,h0⟩,h1⟩:=hok';generalize hi:(ig R C r c).toNat=i at *;have hilt:i<n:=byO;have hneg:g.cells.getD i (-1)=-1:=by
    refine hr.neg i hilt ?_;have:=hr.bit i hilt;rw[hbit]at this;simp at this;simpa[List.getD]using this
   have hm:m'=⟨m.bits ||| 2^i,m.next,m.k+1⟩:=by simpa using h.symm
   subst hm;refine⟨⟨g.next,g.cells.set i (8*g.next+b)⟩,?_,?_⟩
   ·simp only[bm]
    rw[if_pos ⟨by rw[hr.len];unfold OQ;unfold okI at hok;exact hok,by rw[hr.next];omega,by rw[hr.next];omega⟩,hi]
   ·have dJ:8*g.next+b=m.k:=by rw[hr.next,hb];omega
    rw[dJ];have hl:i<g.cells.length:=by rw[hr.len];exact hilt
    refine⟨hr.next,by simp[hr.len],?_,?_,?_,?_,?_,?_⟩
    ·intro j hj
     simp only[Nat.testBit_or,Nat.testBit_two_pow,ic hl];by_cases e:j=i
     ·subst e;simp
     ·have:=hr.bit j hj
      have e':¬ i=j:=fun h=>e h.symm;simp only[e',decide_false,Bool.or_false,if_neg e];exact this
    ·intro j hj hlt
     rw[ic hl]at hlt ⊢;split
     ·rename_i e;rw[if_pos e]at hlt;omega
     ·rename_i e;rw[if_neg e]at hlt;exact hr.neg j hj hlt
    ·intro j hj
     rw[ic hl];have:=hr.lt j hj;split<;>(simp only;omega)
    ·intro a b ha hb' h0 he
     rw[ic hl]at h0 he;rw[ic hl]at he;have la:=hr.lt a ha;have lb:=hr.lt b hb';by_cases ea:a=i
     ·by_cases eb:b=i
      ·omega
      ·rw[if_pos ea,if_neg eb]at he;omega
     ·by_cases eb:b=i
      ·rw[if_neg ea,if_pos eb]at he;omega
      ·rw[if_neg ea]at h0 he
       rw[if_neg eb]at he;exact hr.inj a b ha hb' h0 he
    ·intro v hv
     simp only at hv;by_cases e:v=m.k
     ·exact⟨i,hilt,by rw[ic hl,if_pos rfl,e]⟩
     ·obtain⟨j,hj,hjv⟩:=hr.sur v byO
      refine⟨j,hj,?_⟩;rw[ic hl,if_neg (fun e=>by subst e;omega)];exact hjv
    ·simp only
     rw[countP_set hl (by rw[hneg];rfl) (by simp),hr.cnt]
  ·simp at h
 free:=by
  intro m g r c hr;simp only[ql,bm];by_cases h:(0<=r/\r<R)/\0<=c/\c<C
  ·have hlt:=zb h.1.1 h.1.2 h.2.1 h.2.2
   have hi:(r*C+c).toNat<n:=byO;have:=hr.bit _ hi;have hl:(r*C+c).toNat<g.cells.length:=by rw[hr.len];exact hi
   have e:g.cells.getD (r*C+c).toNat 0=g.cells.getD (r*C+c).toNat (-1):=by simp[List.getD,bc₀ hl]
   rw[e];simp only[h.1.1,h.1.2,h.2.1,h.2.2,decide_true,Bool.true_and];generalize g.cells.getD (r*C+c).toNat (-1)=x at *;cases hb:m.bits.testBit (r*C+c).toNat with
   | true=>
    have:0<=x:=this.1 hb;simp;omega
   | false=>
    have:¬ 0<=x:=fun hx=>by have:=this.2 hx;rw[hb]at this;cases this
    simp;omega
  ·have:(decide (0<=r)&&decide (r<R)&&decide (0<=c)&&decide (c<C))=false:=by
    cases hh:(decide (0<=r)&&decide (r<R)&&decide (0<=c)&&decide (c<C))with
    | false=>rfl
    | true=>simp only[ac₀,af₀]at hh;omega
   rw[this];simp only[Bool.and_assoc]at this ⊢;cases h1:decide (0<=r)<;>cases h2:decide (r<R)<;>cases h3:decide (0<=c)<;>cases h4:decide (c<C)<;>simp_all
 bump:=by
  intro m g hr;simp only[ql,bm,en];exact⟨by simp only;rw[hr.next];omega,hr.len,hr.bit,hr.neg,hr.lt,hr.inj,hr.sur,hr.cnt⟩
def Cg(R C:Int):Option G:=tO (bm R C) R C 200 ⟨0,List.replicate (R*C).toNat (-1)⟩ 4 0
theorem JP(n:Nat):MG n ⟨0,0,0⟩ ⟨0,List.replicate n (-1)⟩:=by
 have hg:∀i,(List.replicate n (-1:Int)).getD i (-1)=-1:=by
  intro i;simp only[au₀,List.getElem?_replicate];split<;>rfl
 refine⟨rfl,by simp,fun i _=>?_,fun i _ _=>hg i,fun i _=>by rw[hg];simp,fun i j _ _ h=>by simp only[hg]at h;omega,fun v h=>by simp at h,?_⟩
 ·simp only[hg];simp
 ·simp
def dH(R C:Nat)(w:Nat):Bool:=match tO (ql R C (R*C)) R C 200 ⟨0,0,0⟩ 4 0 with
 | some m=>m.next==w&&m.k==8*w
 | none=>false
structure Ordered (n:Nat)(w:Nat)(l:List Int):Prop where
 len:l.length=n
 neg:∀i,i<n->l.getD i (-1)<0->l.getD i (-1)=-1
 lt:∀i,i<n->l.getD i (-1)<8*w
 inj:∀i j,i<n->j<n->0<=l.getD i (-1)->l.getD i (-1)=l.getD j (-1)->i=j
 sur:∀v:Nat,v<8*w->∃i,i<n/\l.getD i (-1)=v
 cnt:l.countP (fun x=>decide (0<=x))=8*w
theorem zp{R C w:Nat}(h:dH R C w=true):∃g,Cg R C=some g/\Ordered (R*C) w g.cells:=by
 unfold dH at h;split at h
 ·rename_i m hm
  simp only[ac₀,beq_iff_eq]at h;obtain⟨g,h1,h2⟩:=(zj (R:=R) (C:=C) (n:=R*C) (by simp)).out _ _ _ _ _ _ _ _ (JP (R*C)) hm;refine⟨g,?_,h2.len,h2.neg,fun i hi=>by have:=h2.lt i hi;omega,h2.inj,fun v hv=>h2.sur v byO,by rw[h2.cnt,h.2]⟩;unfold Cg;have e:((R:Int)*(C:Int)).toNat=R*C:=by rw[<-Int.natCast_mul];exact Int.toNat_natCast _
  rw[e];exact h1
 ·simp at h
set_option maxRecDepth 1000000 in
theorem Sg:dH 8 8 8=true:=by kernel_rfl
end Go.Proofs.YtmnlgdpdgjbfgaaGreat
