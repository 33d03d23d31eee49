/- Lemmas. -/
import Derived.Test.YtmnlgdpdgjbfgaaGreatL9
import Derived.Test.YtmnlgdpdgjbfgaaGreatL11
import Derived.Test.YtmnlgdpdgjbfgaaGreatL14
import Derived.Test.YtmnlgdpdgjbfgaaGreatL20
set_option linter.all false
namespace Go.Proofs.YtmnlgdpdgjbfgaaGreat
open Go.Abs Go.RS
variable{H:Heap}{lo:Nat}{i:Nat}
def szT:List (List Nat):=[[10,10,8,8,3,5,1],[12,12,10,10,5,7,1],[14,14,12,12,8,10,1],[16,16,14,14,12,12,1],[18,18,16,16,18,14,1],[20,20,18,18,22,18,1],[22,22,20,20,30,20,1],[24,24,22,22,36,24,1],[26,26,24,24,44,28,1],[32,32,14,14,62,36,1],[36,36,16,16,86,42,1],[40,40,18,18,114,48,1],[44,44,20,20,144,56,1],[48,48,22,22,174,68,1],[52,52,24,24,204,84,2],[64,64,14,14,280,112,2],[72,72,16,16,368,144,4],[80,80,18,18,456,192,4],[88,88,20,20,576,224,4],[96,96,22,22,696,272,4],[104,104,24,24,816,336,6],[120,120,18,18,1050,408,6],[132,132,20,20,1304,496,8],[144,144,22,22,1558,620,10],[8,18,6,16,5,7,1],[8,32,6,14,10,11,1],[12,26,10,24,16,14,1],[12,36,10,16,22,18,1],[16,36,14,16,32,24,1],[16,48,14,22,49,28,1]]
structure Dz where
 a:Nat
 b:Nat
 ra:Nat
 rb:Nat
 d:Nat
 c:Nat
 n:Nat
def RC(r:List Nat):Dz:=⟨r.getD 0 0,r.getD 1 0,r.getD 2 0,r.getD 3 0,r.getD 4 0,r.getD 5 0,r.getD 6 0⟩
def dz(i:Nat):Dz:=RC (szT.getD i [])
def Dz.ck(z:Dz):Nat:=z.c/z.n
def Dz.cells(z:Dz):List Int:=[(z.a:Int),(z.b:Int),(z.ra:Int),(z.rb:Int),(z.d:Int),(z.c:Int),(z.n:Int)]
structure Dz.Ok (z:Dz):Prop where
 n1:1<=z.n
 n2:z.n<=10
 dn:z.n<=z.d
 d2:z.d<=1558
 c2:z.c<=620
 cn:z.c=z.n*z.ck
 k1:1<=z.ck
 k2:z.ck<=68
 all:z.d+z.c<=250*z.n
theorem zd(hi:i<30):(dz i).Ok:=by
 have h:∀i,i<30->(1<=(dz i).n/\(dz i).n<=10/\(dz i).n<=(dz i).d/\(dz i).d<=1558/\(dz i).c<=620/\(dz i).c=(dz i).n*(dz i).ck/\1<=(dz i).ck/\(dz i).ck<=68/\(dz i).d+(dz i).c<=250*(dz i).n):=by decide +kernel
 obtain⟨a,b,c,d,e,f,g,h,i⟩:=h i hi;exact⟨a,b,c,d,e,f,g,h,i⟩
def cnt(N n x:Nat):Nat:=(N+n-1-x)/n
theorem ml{N n x k:Nat}(hx:x<n):k<cnt N n x↔x+k*n<N:=by
 unfold cnt;rw[Nat.lt_iff_add_one_le,Nat.le_div_iff_mul_le byO,Nat.add_mul,Nat.one_mul];omega
theorem GQ{N n x k:Nat}(hx:x<n):cnt (N+n*k) n x=cnt N n x+k:=by
 unfold cnt;rw[show N+n*k+n-1-x=N+n-1-x+n*k by omega,Nat.add_mul_div_left _ _ byO]
theorem yJ{N n j:Nat}(hn:0<n)(hj:j<N):j/n<cnt N n (j%n):=by
 rw[ml (Nat.mod_lt j hn),Nat.mul_comm];have:=Nat.div_add_mod j n;omega
def jZ{α:Type}(l:List α)(d:α)(n x:Nat):List α:=(List.range (cnt l.length n x)).map fun k=>l.getD (x+k*n) d
theorem sD{α:Type}(l:List α)(d:α)(n x:Nat):(jZ l d n x).length=cnt l.length n x:=by simp[jZ]
abbrev F1:FD:=fB 301
abbrev g1:El F1:=eB 301 2
theorem E6:OkF 2 256 301 (fB 301):=⟨OkC.ok,rfl,rfl,rfl⟩
theorem Jw:Gn (OkC.ok (f:=fB 301)) (eB 301 2):=by
 refine⟨by decide,Hu bf301 Le,fun x h1 h2 h=>?_⟩;have h3:x.val=1:=by
  have:x.val<2:=h2;omega
 have:x=eB 301 1:=El.ext h3;subst this;exact wi h
theorem Jm{c:Nat}(h1:1<=c)(h2:c<=254):CdOK F1 c 1:=⟨h1,h2,by decide⟩
theorem F4(e:List (El F1))(n x:Nat):jZ (fo e) 0 n x=fo (jZ e 0 n x):=by
 unfold jZ fo;rw[ay₀,List.map_map];refine List.map_congr_left fun k _=>?_;simp only[Function.comp,au₀,az₀];cases e[x+k*n]?<;>rfl
noncomputable def Oc(r:Nat)(d:List (El F1)):List (El F1):=@Classical.epsilon _ ⟨[]⟩ fun w=>IsEnc g1 r 1 d w
theorem G8{r:Nat}{d w:List (El F1)}(hc:CdOK F1 r 1)(h:IsEnc g1 r 1 d w):w=Oc r d:=
 DV Jw hc h (@Classical.epsilon_spec _ (fun w=>IsEnc g1 r 1 d w) ⟨w,h⟩)
noncomputable def Dz.W(z:Dz)(e:List (El F1))(x:Nat):List (El F1):=Oc z.ck (jZ e 0 z.n x)
noncomputable def ilv(n:Nat)(W:Nat->List (El F1))(N:Nat):List Int:=(List.range N).map fun j=>(((co (W (j%n)) (j/n)).val:Nat):Int)
theorem Gz(n:Nat)(W:Nat->List (El F1))(N:Nat):(ilv n W N).length=N:=by simp[ilv]
theorem zw{n:Nat}{W:Nat->List (El F1)}{x k:Nat}(hx:x<n):(x+k*n)%n=x/\(x+k*n)/n=k:=by
 refine⟨?_,?_⟩
 ·rw[Nat.add_mul_mod_self_right,Nat.mod_eq_of_lt hx]
 ·rw[Nat.add_mul_div_right _ _ byO,Nat.div_eq_of_lt hx,Nat.zero_add]
open Go.Abs
theorem xE:∀f cf,cp f=some cf->aK cf=true:=lk
structure Sz where
 r:Int
 c:Int
 rr:Int
 rc:Int
 d:Int
 k:Int
 b:Int
 deriving DecidableEq
def Sz.cells(s:Sz):List Value:=[.int .i64 s.r,.int .i64 s.c,.int .i64 s.rr,.int .i64 s.rc,.int .i64 s.d,.int .i64 s.k,.int .i64 s.b]
def Sz.zero:Sz:=⟨0,0,0,0,0,0,0⟩
def Sz.val(s:Sz):Value:=.agg #[.int .i64 s.r,.int .i64 s.c,.int .i64 s.rr,.int .i64 s.rc,.int .i64 s.d,.int .i64 s.k,.int .i64 s.b]
def szs:List Sz:=[⟨10,10,8,8,3,5,1⟩,⟨12,12,10,10,5,7,1⟩,⟨14,14,12,12,8,10,1⟩,⟨16,16,14,14,12,12,1⟩,⟨18,18,16,16,18,14,1⟩,⟨20,20,18,18,22,18,1⟩,⟨22,22,20,20,30,20,1⟩,⟨24,24,22,22,36,24,1⟩,⟨26,26,24,24,44,28,1⟩,⟨32,32,14,14,62,36,1⟩,⟨36,36,16,16,86,42,1⟩,⟨40,40,18,18,114,48,1⟩,⟨44,44,20,20,144,56,1⟩,⟨48,48,22,22,174,68,1⟩,⟨52,52,24,24,204,84,2⟩,⟨64,64,14,14,280,112,2⟩,⟨72,72,16,16,368,144,4⟩,⟨80,80,18,18,456,192,4⟩,⟨88,88,20,20,576,224,4⟩,⟨96,96,22,22,696,272,4⟩,⟨104,104,24,24,816,336,6⟩,⟨120,120,18,18,1050,408,6⟩,⟨132,132,20,20,1304,496,8⟩,⟨144,144,22,22,1558,620,10⟩,⟨8,18,6,16,5,7,1⟩,⟨8,32,6,14,10,11,1⟩,⟨12,26,10,24,16,14,1⟩,⟨12,36,10,16,22,18,1⟩,⟨16,36,14,16,32,24,1⟩,⟨16,48,14,22,49,28,1⟩]
def szCells:List Value:=szs.flatMap Sz.cells
set_option maxRecDepth 100000 in
theorem RM:((run cp 40).ret 0 55 [] []).map (fun r=>(r.1,r.2.get 1))=some (.slice (some ⟨1,0,none⟩) 30 30,some szCells):=by kernel_rfl
set_option maxRecDepth 100000 in
theorem RP:((run cp 40).ret 0 26 [] []).map (fun r=>(r.1,r.2.get 120))=some (.slice (some ⟨120,0,some 7⟩) 30 30,some szCells):=by kernel_rfl
theorem Ag:szCells.all bG=true:=by kernel_rfl
theorem vN(hlo:lo<=H.length):Ev cp lo 55 [] H (fun v H'=>∃j,H.length<=j/\v=.slice (some ⟨j,0,none⟩) 30 30/\H'.get j=some szCells/\Ext H H'):=
 k7 xE rfl RM Ag hlo
theorem I6(hlo:lo<=H.length):Ev cp lo 26 [] H (fun v H'=>∃j,H.length<=j/\v=.slice (some ⟨j,0,some 7⟩) 30 30/\H'.get j=some szCells/\Ext H H'):=
 k7 xE rfl RP Ag hlo
def bP(i:Nat):Sz:=szs.getD i Sz.zero
theorem jM:szs.length=30:=rfl
theorem jL:szCells.length=210:=by kernel_rfl
theorem Cp(l:List Sz):∀(i:Nat),i<l.length->((l.flatMap Sz.cells).drop (i*7)).take 7=(l.getD i Sz.zero).cells:=by
 induction l with
 | nil=>intro i h;simp at h
 | cons s l ih=>
  intro i h;cases i with
  | zero=>simp[Sz.cells]
  | succ i=>
   have:=ih i (by simpa using h);rw[Nat.succ_mul,List.flatMap_cons,List.drop_append];simp only[Sz.cells,ak₀,an₀];rw[show i*7+7-7=i*7 by omega];simpa[Sz.cells]using this
theorem kT(h:i<30):(szCells.drop (i*7)).take 7=(bP i).cells:=Cp szs i (by rw[jM];exact h)
theorem fT(h:i<30):szs.take (i+1)=szs.take i++[bP i]:=by
 rw[List.take_add_one];congr 1;unfold bP;rw[bb₀ (by rw[jM];exact h)];simp[List.getD,bb₀ (show i<szs.length by rw[jM];exact h)]
def gj(n:Int)(sq:Bool)(best s:Sz):Sz:=
 if (sq=true/\s.r≠s.c)\/s.d<n then best else if best.d=0\/s.d<best.d then s else best
def dU(n:Int)(sq:Bool)(i:Nat):Sz:=(szs.take i).foldl (gj n sq) Sz.zero
theorem gi{n:Int}{sq:Bool}(h:i<30):dU n sq (i+1)=gj n sq (dU n sq i) (bP i):=by
 unfold dU;rw[fT h,List.foldl_append];rfl
def sS(n:Int)(sq:Bool):Sz×Int:=if n<1 then(Sz.zero,3) else if 1558<n then(Sz.zero,16) else(dU n sq 30,0)
def fI{α:Type}(x:Int)(k:Int->α):α:=match x with
 | .ofNat 0=>k 0
 | .ofNat (n+1)=>k (.ofNat (n+1))
 | .negSucc n=>k (.negSucc n)
theorem n4{α:Type}(x:Int)(k:Int->α):fI x k=k x:=by
 unfold fI;split<;>rfl
def fN{α:Type}(x:Nat)(k:Nat->α):α:=match x with
 | 0=>k 0
 | n+1=>k (n+1)
theorem eU{α:Type}(x:Nat)(k:Nat->α):fN x k=k x:=by
 unfold fN;split<;>rfl
structure Ops (σ:Type) where
 asg:σ->Int->Int->Int->Option σ
 free:σ->Int->Int->Bool
 bump:σ->σ
def goG{σ:Type}(O:Ops σ):σ->List (Int×Int)->Int->Option σ
 | s,[],_=>some s
 | s,p::ps,bit=>match O.asg s p.1 p.2 bit with
  | some s'=>goG O s' ps (bit+1)
  | none=>none
def kp{σ:Type}(O:Ops σ)(s:σ)(l:List (Int×Int)):Option σ:=match goG O s l 0 with
 | some s'=>some (O.bump s')
 | none=>none
def pl(r c:Int):List (Int×Int):=[(r-2,c-2),(r-2,c-1),(r-1,c-2),(r-1,c-1),(r-1,c),(r,c-2),(r,c-1),(r,c)]
def rV{σ:Type}(O:Ops σ)(s:σ)(r c:Int):Option σ:=if O.free s r c=true then kp O s (pl r c) else some s
def c1(n w:Int):List (Int×Int):=[(n-1,0),(n-1,1),(n-1,2),(0,w-2),(0,w-1),(1,w-1),(2,w-1),(3,w-1)]
def c2(n w:Int):List (Int×Int):=[(n-3,0),(n-2,0),(n-1,0),(0,w-4),(0,w-3),(0,w-2),(0,w-1),(1,w-1)]
def c3(n w:Int):List (Int×Int):=[(n-3,0),(n-2,0),(n-1,0),(0,w-2),(0,w-1),(1,w-1),(2,w-1),(3,w-1)]
def c4(n w:Int):List (Int×Int):=[(n-1,0),(n-1,w-1),(0,w-3),(0,w-2),(0,w-1),(1,w-3),(1,w-2),(1,w-1)]
def kA{σ:Type}(O:Ops σ)(b:Bool)(s:σ)(l:List (Int×Int)):Option σ:=if b=true then kp O s l else some s
def k1(R r c:Int):Bool:=decide (r=R)&&decide (c=0)
def k2(R C r c:Int):Bool:=decide (r=R-2)&&decide (c=0)&&decide (C.tmod 4≠0)
def k3(R C r c:Int):Bool:=decide (r=R-2)&&decide (c=0)&&decide (C.tmod 8=4)
def k4(R C r c:Int):Bool:=decide (r=R+4)&&decide (c=2)&&decide (C.tmod 8=0)
def gG{σ:Type}(O:Ops σ)(R C:Int)(s:σ)(r c:Int):Option σ:=
 match kA O (k1 R r c) s (c1 R C)with
 | none=>none
 | some s=>match kA O (k2 R C r c) s (c2 R C)with
  | none=>none
  | some s=>match kA O (k3 R C r c) s (c3 R C)with
   | none=>none
   | some s=>kA O (k4 R C r c) s (c4 R C)
def inB(r c:Int):Bool:=decide (-4000<=r)&&decide (r<=4000)&&decide (-4000<=c)&&decide (c<=4000)
def upG{σ:Type}(O:Ops σ)(C:Int):Nat->σ->Int->Int->Option (σ×Int×Int)
 | 0,_,_,_=>none
 | k+1,s,r,c=>if inB r c=true then match rV O s r c with
  | none=>none
  | some s=>fI (r-2) fun r=>fI (c+2) fun c=>if 0<=r/\c<C then upG O C k s r c else some (s,r,c)
  else none
def kZ{σ:Type}(O:Ops σ)(R:Int):Nat->σ->Int->Int->Option (σ×Int×Int)
 | 0,_,_,_=>none
 | k+1,s,r,c=>if inB r c=true then match rV O s r c with
  | none=>none
  | some s=>fI (r+2) fun r=>fI (c-2) fun c=>if r<R/\0<=c then kZ O R k s r c else some (s,r,c)
  else none
def sX{σ:Type}(O:Ops σ)(R C:Int):Nat->σ->Int->Int->Option σ
 | 0,_,_,_=>none
 | k+1,s,r,c=>if inB r c=true then match gG O R C s r c with
  | none=>none
  | some s=>match upG O C 200 s r c with
   | none=>none
   | some (s,r,c)=>fI (r+1) fun r=>fI (c+3) fun c=>match kZ O R 200 s r c with
    | none=>none
    | some (s,r,c)=>fI (r+3) fun r=>fI (c+1) fun c=>if r<R\/c<C then sX O R C k s r c else some s
  else none
section refine
variable {σ τ:Type}{O:Ops σ}{O':Ops τ}{Rel:σ->τ->Prop}
structure Refines (O:Ops σ)(O':Ops τ)(Rel:σ->τ->Prop):Prop where
 asg:∀s t r c b s',Rel s t->O.asg s r c b=some s'->∃t',O'.asg t r c b=some t'/\Rel s' t'
 free:∀s t r c,Rel s t->O.free s r c=O'.free t r c
 bump:∀s t,Rel s t->Rel (O.bump s) (O'.bump t)
variable (h:Refines O O' Rel)
include h
theorem Refines.go:∀(l:List (Int×Int)) (s:σ) (t:τ) (b:Int) (s':σ),Rel s t->goG O s l b=some s'->∃t',goG O' t l b=some t'/\Rel s' t'
 | [],s,t,b,s',hr,e=>by simp only[goG]at e ⊢;cases e;exact⟨t,rfl,hr⟩
 | p::ps,s,t,b,s',hr,e=>by
  simp only[goG]at e ⊢;split at e
  ·rename_i s1 h1
   obtain⟨t1,h2,hr1⟩:=h.asg _ _ _ _ _ _ hr h1;rw[h2];exact Refines.go ps s1 t1 (b+1) s' hr1 e
  ·simp at e
theorem Refines.each(l:List (Int×Int))(s:σ)(t:τ)(s':σ)(hr:Rel s t)(e:kp O s l=some s'):∃t',kp O' t l=some t'/\Rel s' t':=by
 unfold kp at e ⊢;split at e
 ·rename_i s1 h1
  obtain⟨t1,h2,hr1⟩:=h.go _ _ _ _ _ hr h1;rw[h2];cases e;exact⟨_,rfl,h.bump _ _ hr1⟩
 ·simp at e
theorem Refines.eif(b:Bool)(l:List (Int×Int))(s:σ)(t:τ)(s':σ)(hr:Rel s t)(e:kA O b s l=some s'):∃t',kA O' b t l=some t'/\Rel s' t':=by
 unfold kA at e ⊢;cases b with
 | true=>exact h.each l s t s' hr e
 | false=>cases e;exact⟨t,rfl,hr⟩
theorem Refines.pif(r c:Int)(s:σ)(t:τ)(s':σ)(hr:Rel s t)(e:rV O s r c=some s'):∃t',rV O' t r c=some t'/\Rel s' t':=by
 unfold rV at e ⊢;rw[<-h.free s t r c hr];cases hf:O.free s r c with
 | true=>rw[hf]at e;exact h.each _ s t s' hr e
 | false=>rw[hf]at e;cases e;exact⟨t,rfl,hr⟩
theorem Refines.corners(R C r c:Int)(s:σ)(t:τ)(s':σ)(hr:Rel s t)(e:gG O R C s r c=some s'):∃t',gG O' R C t r c=some t'/\Rel s' t':=by
 unfold gG at e ⊢;split at e
 ·simp at e
 ·rename_i s1 e1
  obtain⟨t1,f1,r1⟩:=h.eif _ _ _ _ _ hr e1;split at e
  ·simp at e
  ·rename_i s2 e2
   obtain⟨t2,f2,r2⟩:=h.eif _ _ _ _ _ r1 e2;split at e
   ·simp at e
   ·rename_i s3 e3
    obtain⟨t3,f3,r3⟩:=h.eif _ _ _ _ _ r2 e3;obtain⟨t4,f4,r4⟩:=h.eif _ _ _ _ _ r3 e;exact⟨t4,by simp only[f1,f2,f3,f4],r4⟩
theorem Refines.up(C:Int):∀(k:Nat) (s:σ) (t:τ) (r c:Int) (s':σ) (r' c':Int),Rel s t->upG O C k s r c=some (s',r',c')->∃t',upG O' C k t r c=some (t',r',c')/\Rel s' t'
 | 0,_,_,_,_,_,_,_,_,e=>by simp[upG]at e
 | k+1,s,t,r,c,s',r',c',hr,e=>by
  simp only[upG,n4]at e ⊢;split at e
  ·rename_i hb
   rw[if_pos hb];split at e
   ·simp at e
   ·rename_i s1 e1
    obtain⟨t1,f1,r1⟩:=h.pif _ _ _ _ _ hr e1;simp only[f1];split at e
    ·rename_i hc;rw[if_pos hc];exact Refines.up C k s1 t1 _ _ _ _ _ r1 e
    ·rename_i hc;rw[if_neg hc];cases e;exact⟨t1,rfl,r1⟩
  ·simp at e
theorem Refines.down(R:Int):∀(k:Nat) (s:σ) (t:τ) (r c:Int) (s':σ) (r' c':Int),Rel s t->kZ O R k s r c=some (s',r',c')->∃t',kZ O' R k t r c=some (t',r',c')/\Rel s' t'
 | 0,_,_,_,_,_,_,_,_,e=>by simp[kZ]at e
 | k+1,s,t,r,c,s',r',c',hr,e=>by
  simp only[kZ,n4]at e ⊢;split at e
  ·rename_i hb
   rw[if_pos hb];split at e
   ·simp at e
   ·rename_i s1 e1
    obtain⟨t1,f1,r1⟩:=h.pif _ _ _ _ _ hr e1;simp only[f1];split at e
    ·rename_i hc;rw[if_pos hc];exact Refines.down R k s1 t1 _ _ _ _ _ r1 e
    ·rename_i hc;rw[if_neg hc];cases e;exact⟨t1,rfl,r1⟩
  ·simp at e
theorem Refines.out(R C:Int):∀(k:Nat) (s:σ) (t:τ) (r c:Int) (s':σ),Rel s t->sX O R C k s r c=some s'->∃t',sX O' R C k t r c=some t'/\Rel s' t'
 | 0,_,_,_,_,_,_,e=>by simp[sX]at e
 | k+1,s,t,r,c,s',hr,e=>by
  simp only[sX,n4]at e ⊢;split at e
  ·rename_i hb
   rw[if_pos hb];split at e
   ·simp at e
   ·rename_i s1 e1
    obtain⟨t1,f1,r1⟩:=h.corners _ _ _ _ _ _ _ hr e1;simp only[f1];split at e
    ·simp at e
    ·rename_i s2 ra ca e2
     obtain⟨t2,f2,r2⟩:=h.up _ _ _ _ _ _ _ _ _ r1 e2;simp only[f2];split at e
     ·simp at e
     ·rename_i s3 rb cb e3
      obtain⟨t3,f3,r3⟩:=h.down _ _ _ _ _ _ _ _ _ r2 e3;simp only[f3];split at e
      ·rename_i hc;rw[if_pos hc];exact Refines.out R C k s3 t3 _ _ _ r3 e
      ·rename_i hc;rw[if_neg hc];cases e;exact⟨t3,rfl,r3⟩
  ·simp at e
end refine
def rowOf(R C r c:Int):Int:=let r1:=if r<0 then r+R else r;let c1:=if r<0 then c+(4-(R+4).tmod 8) else c;if c1<0 then r1+(4-(C+4).tmod 8) else r1
def Jn(R C r c:Int):Int:=let c1:=if r<0 then c+(4-(R+4).tmod 8) else c;if c1<0 then c1+C else c1
def iT(R C r c:Int):Int:=rowOf R C r c*C+Jn R C r c
structure G where
 next:Int
 cells:List Int
def My(R C r c:Int)(n:Nat):Bool:=inB r c&&decide (0<=iT R C r c)&&decide (iT R C r c<n)
def bZ(R C:Int):Ops G where
 asg:=fun g r c b=>if My R C r c g.cells.length=true/\0<=g.next/\g.next<=100000 then some ⟨g.next,g.cells.set (iT R C r c).toNat (8*g.next+b)⟩ else none
 free:=fun g r c=>decide (0<=r)&&decide (r<R)&&decide (0<=c)&&decide (c<C)&&decide (g.cells.getD (r*C+c).toNat 0<0)
 bump:=fun g=>⟨g.next+1,g.cells⟩
structure M where
 bits:Nat
 next:Nat
 k:Nat
def okI(r c i:Int)(n:Nat):Bool:=inB r c&&decide (0<=i)&&decide (i<n)
def Lj{α:Type}(R C r c:Int)(k:Int->α):α:=
 fI (if r<0 then r+R else r) fun r1=>fI (if r<0 then c+(4-(R+4).tmod 8) else c) fun c1=>fI (if c1<0 then r1+(4-(C+4).tmod 8) else r1) fun r2=>fI (if c1<0 then c1+C else c1) fun c2=>fI (r2*C+c2) k
theorem Gx{α:Type}(R C r c:Int)(k:Int->α):Lj R C r c k=k (iT R C r c):=by simp only[Lj,n4,iT,rowOf,Jn]
def qJ(R C:Int)(n:Nat):Ops M where
 asg:=fun m r c b=>Lj R C r c fun i=>if okI r c i n=true/\m.next<=100000/\b=(m.k:Int)-8*m.next/\m.bits.testBit i.toNat=false then
   fN (m.bits ||| 2^i.toNat) fun b=>fN (m.k+1) fun k=>some ⟨b,m.next,k⟩ else none
 free:=fun m r c=>decide (0<=r)&&(decide (r<R)&&(decide (0<=c)&&(decide (c<C)&&!(m.bits.testBit (r*C+c).toNat))))
 bump:=fun m=>fN (m.next+1) fun n=>⟨m.bits,n,m.k⟩
structure MG (n:Nat)(m:M)(g:G):Prop where
 next:g.next=m.next
 len:g.cells.length=n
 bit:∀i,i<n->(m.bits.testBit i=true↔0<=g.cells.getD i (-1))
 neg:∀i,i<n->g.cells.getD i (-1)<0->g.cells.getD i (-1)=-1
 lt:∀i,i<n->g.cells.getD i (-1)<m.k
 inj:∀i j,i<n->j<n->0<=g.cells.getD i (-1)->g.cells.getD i (-1)=g.cells.getD j (-1)->i=j
 sur:∀v:Nat,v<m.k->∃i,i<n/\g.cells.getD i (-1)=v
 cnt:g.cells.countP (fun x=>decide (0<=x))=m.k
theorem iQ{l:List Int}{i j:Nat}{v d:Int}(h:i<l.length):(l.set i v).getD j d=if j=i then v else l.getD j d:=by
 simp only[au₀,List.getElem?_set];by_cases e:i=j
 ·subst e;simp[h]
 ·rw[if_neg e,if_neg (fun h=>e h.symm)]
theorem countP_set{p:Int->Bool}:∀{l:List Int} {i:Nat} {v:Int},i<l.length->p (l.getD i (-1))=false->p v=true->(l.set i v).countP p=l.countP p+1
 | [],i,v,h,_,_=>by simp at h
 | a::l,0,v,_,h1,h2=>by
  simp at h1;simp[h1,h2]
 | a::l,i+1,v,h,h1,h2=>by
  have:=countP_set (p:=p) (l:=l) (i:=i) (v:=v) (by simpa using h) (by simpa using h1) h2;simp only[List.set_cons_succ,List.countP_cons,this];omega
theorem yY{R C r c:Int}(h0:0<=r)(h1:r<R)(h2:0<=c)(h3:c<C):0<=r*C+c/\r*C+c<R*C:=by
 have a:(r+1)*C<=R*C:=Int.mul_le_mul_of_nonneg_right byO byO;have b:0<=r*C:=Int.mul_nonneg h0 byO;rw[Int.add_mul]at a;omega
theorem ye{R C:Int}{n:Nat}(hRC:(n:Int)=R*C):Refines (qJ R C n) (bZ R C) (MG n) where
 asg:=by
  intro m g r c b m' hr h;simp only[qJ,Gx,eU]at h;split at h
  ·rename_i hc
   obtain⟨hok,hn,hb,hbit⟩:=hc;have hok':=hok;simp only[okI,ac₀,af₀]at hok';obtain⟨⟨hin,h0⟩,h1⟩:=hok';generalize hi:(iT R C r c).toNat=i at *;have hilt:i<n:=byO;have hneg:g.cells.getD i (-1)=-1:=by
    refine hr.neg i hilt ?_;have:=hr.bit i hilt;rw[hbit]at this;simp at this;simpa[List.getD]using this
   have hm:m'=⟨m.bits ||| 2^i,m.next,m.k+1⟩:=by simpa using h.symm
   subst hm;refine⟨⟨g.next,g.cells.set i (8*g.next+b)⟩,?_,?_⟩
   ·simp only[bZ]
    rw[if_pos ⟨by rw[hr.len];unfold My;unfold okI at hok;exact hok,by rw[hr.next];omega,by rw[hr.next];omega⟩,hi]
   ·have mh:8*g.next+b=m.k:=by rw[hr.next,hb];omega
    rw[mh];have hl:i<g.cells.length:=by rw[hr.len];exact hilt
    refine⟨hr.next,by simp[hr.len],?_,?_,?_,?_,?_,?_⟩
    ·intro j hj
     simp only[Nat.testBit_or,Nat.testBit_two_pow,iQ hl];by_cases e:j=i
     ·subst e;simp
     ·have:=hr.bit j hj
      have e':¬ i=j:=fun h=>e h.symm;simp only[e',decide_false,Bool.or_false,if_neg e];exact this
    ·intro j hj hlt
     rw[iQ hl]at hlt ⊢;split
     ·rename_i e;rw[if_pos e]at hlt;omega
     ·rename_i e;rw[if_neg e]at hlt;exact hr.neg j hj hlt
    ·intro j hj
     rw[iQ hl];have:=hr.lt j hj;split<;>(simp only;omega)
    ·intro a b ha hb' h0 he
     rw[iQ hl]at h0 he;rw[iQ hl]at he;have la:=hr.lt a ha;have lb:=hr.lt b hb';by_cases ea:a=i
     ·by_cases eb:b=i
      ·omega
      ·rw[if_pos ea,if_neg eb]at he;omega
     ·by_cases eb:b=i
      ·rw[if_neg ea,if_pos eb]at he;omega
      ·rw[if_neg ea]at h0 he
       rw[if_neg eb]at he;exact hr.inj a b ha hb' h0 he
    ·intro v hv
     simp only at hv;by_cases e:v=m.k
     ·exact⟨i,hilt,by rw[iQ hl,if_pos rfl,e]⟩
     ·obtain⟨j,hj,hjv⟩:=hr.sur v byO
      refine⟨j,hj,?_⟩;rw[iQ hl,if_neg (fun e=>by subst e;omega)];exact hjv
    ·simp only
     rw[countP_set hl (by rw[hneg];rfl) (by simp),hr.cnt]
  ·simp at h
 free:=by
  intro m g r c hr;simp only[qJ,bZ];by_cases h:(0<=r/\r<R)/\0<=c/\c<C
  ·have hlt:=yY h.1.1 h.1.2 h.2.1 h.2.2
   have hi:(r*C+c).toNat<n:=byO;have:=hr.bit _ hi;have hl:(r*C+c).toNat<g.cells.length:=by rw[hr.len];exact hi
   have e:g.cells.getD (r*C+c).toNat 0=g.cells.getD (r*C+c).toNat (-1):=by simp[List.getD,bb₀ hl]
   rw[e];simp only[h.1.1,h.1.2,h.2.1,h.2.2,decide_true,Bool.true_and];generalize g.cells.getD (r*C+c).toNat (-1)=x at *;cases hb:m.bits.testBit (r*C+c).toNat with
   | true=>
    have:0<=x:=this.1 hb;simp;omega
   | false=>
    have:¬ 0<=x:=fun hx=>by have:=this.2 hx;rw[hb]at this;cases this
    simp;omega
  ·have:(decide (0<=r)&&decide (r<R)&&decide (0<=c)&&decide (c<C))=false:=by
    cases hh:(decide (0<=r)&&decide (r<R)&&decide (0<=c)&&decide (c<C))with
    | false=>rfl
    | true=>simp only[ac₀,af₀]at hh;omega
   rw[this];simp only[Bool.and_assoc]at this ⊢;cases h1:decide (0<=r)<;>cases h2:decide (r<R)<;>cases h3:decide (0<=c)<;>cases h4:decide (c<C)<;>simp_all
 bump:=by
  intro m g hr;simp only[qJ,bZ,eU];exact⟨by simp only;rw[hr.next];omega,hr.len,hr.bit,hr.neg,hr.lt,hr.inj,hr.sur,hr.cnt⟩
def Bl(R C:Int):Option G:=sX (bZ R C) R C 200 ⟨0,List.replicate (R*C).toNat (-1)⟩ 4 0
theorem He(n:Nat):MG n ⟨0,0,0⟩ ⟨0,List.replicate n (-1)⟩:=by
 have hg:∀i,(List.replicate n (-1:Int)).getD i (-1)=-1:=by
  intro i;simp only[au₀,List.getElem?_replicate];split<;>rfl
 refine⟨rfl,by simp,fun i _=>?_,fun i _ _=>hg i,fun i _=>by rw[hg];simp,fun i j _ _ h=>by simp only[hg]at h;omega,fun v h=>by simp at h,?_⟩
 ·simp only[hg];simp
 ·simp
def dA(R C:Nat)(w:Nat):Bool:=match sX (qJ R C (R*C)) R C 200 ⟨0,0,0⟩ 4 0 with
 | some m=>m.next==w&&m.k==8*w
 | none=>false
structure Ordered (n:Nat)(w:Nat)(l:List Int):Prop where
 len:l.length=n
 neg:∀i,i<n->l.getD i (-1)<0->l.getD i (-1)=-1
 lt:∀i,i<n->l.getD i (-1)<8*w
 inj:∀i j,i<n->j<n->0<=l.getD i (-1)->l.getD i (-1)=l.getD j (-1)->i=j
 sur:∀v:Nat,v<8*w->∃i,i<n/\l.getD i (-1)=v
 cnt:l.countP (fun x=>decide (0<=x))=8*w
theorem ym{R C w:Nat}(h:dA R C w=true):∃g,Bl R C=some g/\Ordered (R*C) w g.cells:=by
 unfold dA at h;split at h
 ·rename_i m hm
  simp only[ac₀,beq_iff_eq]at h;obtain⟨g,h1,h2⟩:=(ye (R:=R) (C:=C) (n:=R*C) (by simp)).out _ _ _ _ _ _ _ _ (He (R*C)) hm;refine⟨g,?_,h2.len,h2.neg,fun i hi=>by have:=h2.lt i hi;omega,h2.inj,fun v hv=>h2.sur v byO,by rw[h2.cnt,h.2]⟩;unfold Bl;have e:((R:Int)*(C:Int)).toNat=R*C:=by rw[<-Int.natCast_mul];exact Int.toNat_natCast _
  rw[e];exact h1
 ·simp at h
set_option maxRecDepth 1000000 in
theorem Rw:dA 8 8 8=true:=by kernel_rfl
theorem gB{a b A B:Int}(h1:-A<=a)(h2:a<=A)(h3:0<=b)(h4:b<=B)(hA:0<=A):-(A*B)<=a*b/\a*b<=A*B:=by
 have e1:a*b<=A*b:=Int.mul_le_mul_of_nonneg_right h2 h3;have e2:A*b<=A*B:=Int.mul_le_mul_of_nonneg_left h4 hA;have e3:-A*b<=a*b:=Int.mul_le_mul_of_nonneg_right h1 h3;rw[Int.neg_mul]at e3;omega
structure Fil (H:Heap)(p q:Nat)(R C:Int)(g:G):Prop where
 fp:H.get p=some [.int .i64 R,.int .i64 C,.slice (some ⟨q,0,none⟩) g.cells.length g.cells.length,.int .i64 g.next]
 fq:H.get q=some (ah g.cells)
 ne:p≠q
structure Dim (R C:Int):Prop where
 r0:6<=R
 r1:R<=200
 c0:6<=C
 c1:C<=200
theorem qH{R C:Int}{g g':G}{r c b:Int}(h:(bZ R C).asg g r c b=some g'):-4000<=r/\r<=4000/\-4000<=c/\c<=4000/\0<=iT R C r c/\iT R C r c<g.cells.length/\0<=g.next/\g.next<=100000/\g'=⟨g.next,g.cells.set (iT R C r c).toNat (8*g.next+b)⟩:=by
 simp only[bZ]at h;split at h
 ·rename_i hc
  simp only[My,inB,ac₀,af₀]at hc;simp at h;refine⟨hc.1.1.1.1.1.1,hc.1.1.1.1.1.2,hc.1.1.1.1.2,hc.1.1.1.2,hc.1.1.2,hc.1.2,hc.2.1,hc.2.2,h.symm⟩
 ·simp at h
theorem kV{a:Int}{m:Int}(h:0<=a)(hm:0<m):0<=a.tmod m/\a.tmod m<m:=⟨Int.tmod_nonneg m h,Int.tmod_lt_of_pos a hm⟩
namespace XJWd
def xtr:=zzi @Sz.cells.eq_1 @Sz.val.eq_1
end XJWd
open XJWd
theorem C3{p q:Nat}{R C:Int}{g g':G}{r c b:Int}(hd:Dim R C)(hf:Fil H p q R C g)(hlo:lo<=q)(hb:0<=b/\b<=7)(h:(bZ R C).asg g r c b=some g') :
  Ev cp lo 132 [.pointer (some ⟨p,0,none⟩),.int .i64 r,.int .i64 c,.int .i64 b] H (fun _ H'=>H'=H.set q (some (ah g'.cells))):=by
 obtain⟨b1,b2,b3,b4,b5,b6,b7,b8,rfl⟩:=qH h;obtain⟨r0,r1,c0,c1⟩:=hd;have fp:=hf.fp;have fq:=hf.fq;have m1:=kV (a:=R+4) (m:=8) byO byO;have m2:=kV (a:=C+4) (m:=8) byO byO;have hql:=Heap.get_lt fq;have hl:=jc g.cells;refine stG rfl rfl ?_;unfold JJ;simp only[kB,aC];refine iI (fun S' H'=>H'=H/\S'=[.pointer (some ⟨p,0,none⟩),.int .i64 (if r<0 then r+R else r),.int .i64 (if r<0 then c+(4-(R+4).tmod 8) else c),.int .i64 b]) ?_ ?_
 ·refine dK ?_ ?_<;>intro h
  ·have hr:r<0:=by simpa using h
   refine aj ?_;exact⟨by trivial,by simp(disch:=try exact dO)only[evB,xtr, *]⟩
  ·have hr:¬ r<0:=by simpa using h
   (try simp only[aC]);exact⟨by trivial,by simp only[if_neg hr]⟩
 rintro S' H' ⟨rfl,rfl⟩;(try simp only[aC]);generalize hr1:(if r<0 then r+R else r)=ra;generalize hc1:(if r<0 then c+(4-(R+4).tmod 8) else c)=ca;have bra:-4000<=ra/\ra<=4200:=by subst hr1;split<;>omega
 have bca:-4010<=ca/\ca<=4010:=by subst hc1;split<;>omega
 refine iI (fun S' H''=>H''=H'/\S'=[.pointer (some ⟨p,0,none⟩),.int .i64 (if ca<0 then ra+(4-(C+4).tmod 8) else ra),.int .i64 (if ca<0 then ca+C else ca),.int .i64 b]) ?_ ?_
 ·refine dK ?_ ?_<;>intro h
  ·have hr:ca<0:=by simpa using h
   refine aj ?_;exact⟨by trivial,by simp(disch:=try exact dO)only[evB,xtr, *]⟩
  ·have hr:¬ ca<0:=by simpa using h
   (try simp only[aC]);exact⟨by trivial,by simp only[if_neg hr]⟩
 rintro S' H'' ⟨rfl,rfl⟩;have hi:(if ca<0 then ra+(4-(C+4).tmod 8) else ra)*C+(if ca<0 then ca+C else ca)=iT R C r c:=by subst hr1 hc1;rfl
 generalize hr2:(if ca<0 then ra+(4-(C+4).tmod 8) else ra)=rb at *;generalize hc2:(if ca<0 then ca+C else ca)=cb at *;have brb:-4010<=rb/\rb<=4210:=by subst hr2;split<;>omega
 have bcb:-4010<=cb/\cb<=4210:=by subst hc2;split<;>omega
 have hm:=gB (a:=rb) (b:=C) (A:=5000) (B:=200) byO byO byO c1 byO;generalize iT R C r c=i at *;refine aj ?_;refine eu (by simp(disch:=try exact dO)only[evB,xtr, *];rfl) ?_;rfl
theorem D6{p q:Nat}{R C:Int}{g:G}{r c:Int}(hd:Dim R C)(hf:Fil H p q R C g)(hn:(g.cells.length:Int)=R*C) :
  Ev cp lo 134 [.pointer (some ⟨p,0,none⟩),.int .i64 r,.int .i64 c] H (fun v H'=>H'=H/\v=.bool ((bZ R C).free g r c)):=by
 obtain⟨r0,r1,c0,c1⟩:=hd;have fp:=hf.fp;have fq:=hf.fq;refine stG rfl rfl ?_;unfold JL;simp only[kB,aC];refine aj ?_;simp only[bZ];by_cases h1:0<=r
 ·by_cases h2:r<R
  ·by_cases h3:0<=c
   ·by_cases h4:c<C
    ·have hi:=yY h1 h2 h3 h4
     have hm:=gB (a:=r) (b:=C) (A:=200) (B:=200) byO byO byO c1 byO;have hx:(r*C+c).toNat<g.cells.length:=byO;refine aj ?_;refine eP ?_;refine⟨rfl,?_⟩;simp[aP,h1,h2,h3,h4]
    ·refine aj ?_
     refine eP ?_;refine⟨rfl,?_⟩;simp[aP,h1,h2,h3,h4]
   ·refine aj ?_
    refine eP ?_;refine⟨rfl,?_⟩;simp[aP,h1,h2,h3]
  ·refine aj ?_
   refine eP ?_;refine⟨rfl,?_⟩;simp[aP,h1,h2]
 ·refine aj ?_
  refine eP ?_;refine⟨rfl,?_⟩;simp[aP,h1]
structure Ch (p q:Nat)(H H':Heap):Prop where
 len:H.length<=H'.length
 get:∀i,i<H.length->i≠p->i≠q->H'.get i=H.get i
theorem Ch.refl{p q:Nat}(H:Heap):Ch p q H H:=⟨Nat.le_refl _,fun _ _ _ _=>rfl⟩
theorem Ch.trans{p q:Nat}{A B C:Heap}(h:Ch p q A B)(k:Ch p q B C):Ch p q A C:=⟨Nat.le_trans h.len k.len,fun i hi h1 h2=>(k.get i (bc₀ hi h.len) h1 h2).trans (h.get i hi h1 h2)⟩
theorem Ch.app{p q:Nat}(H L:Heap):Ch p q H (H++L):=⟨by simp,fun _ h _ _=>aQ h⟩
theorem Ch.setq{p q:Nat}(H:Heap)(x:Option (List Value)):Ch p q H (H.set q x):=⟨by simp,fun i _ _ h=>aI (fun e=>h e.symm)⟩
theorem Ch.setp{p q:Nat}(H:Heap)(x:Option (List Value)):Ch p q H (H.set p x):=⟨by simp,fun i _ h _=>aI (fun e=>h e.symm)⟩
def eF(l:List (Int×Int)):List Value:=l.flatMap fun p=>[.int .i64 p.1,.int .i64 p.2]
theorem Ee(l:List (Int×Int)):∀(k:Nat),k<l.length->((eF l).drop (k*2)).take 2=[.int .i64 (l.getD k (0,0)).1,.int .i64 (l.getD k (0,0)).2]:=by
 induction l with
 | nil=>intro i h;simp at h
 | cons s l ih=>
  intro i h;cases i with
  | zero=>simp[eF]
  | succ i=>
   have:=ih i (by simpa using h);have e:eF (s::l)=.int .i64 s.1::.int .i64 s.2::eF l:=rfl;rw[e,Nat.succ_mul,List.drop_succ_cons,List.drop_succ_cons];simpa using this
theorem Bq(l:List (Int×Int)):(eF l).length=l.length*2:=by
 induction l with
 | nil=>rfl
 | cons s l ih=>simp only[eF,List.flatMap_cons,as₀,ak₀,an₀]at ih ⊢;omega
theorem Bp{l:List (Int×Int)}{k:Nat}(h:k<l.length):(eF l).toArray.extract (k*2) (k*2+2)=#[.int .i64 (l.getD k (0,0)).1,.int .i64 (l.getD k (0,0)).2]:=by
 rw[List.extract_toArray,List.extract_eq_take_drop,show k*2+2-k*2=2 by omega,Ee l k h]
theorem qZ{l:List (Int×Int)}{k:Nat}(h:k<l.length):l.drop k=l.getD k (0,0)::l.drop (k+1):=by
 rw[List.drop_eq_getElem_cons h];simp[List.getD,bb₀ h]
theorem zP{R C:Int}{g g':G}{r c b:Int}(h:(bZ R C).asg g r c b=some g'):g'.cells.length=g.cells.length/\g'.next=g.next:=by
 obtain⟨_,_,_,_,_,_,_,_,rfl⟩:=qH h;simp
theorem Fil.mono{H H':Heap}{p q:Nat}{R C:Int}{g:G}(h:Fil H p q R C g)(e:Ext H H'):Fil H' p q R C g:=⟨e.get h.fp,e.get h.fq,h.ne⟩
theorem Fil.setq{H:Heap}{p q:Nat}{R C:Int}{g g':G}(h:Fil H p q R C g)(hl:g'.cells.length=g.cells.length)(hn:g'.next=g.next):Fil (H.set q (some (ah g'.cells))) p q R C g':=
 ⟨by rw[aI (fun e=>h.ne e.symm),h.fp,hl,hn],by rw[aF (Heap.get_lt h.fq)],h.ne⟩
theorem uY{R C:Int}:∀{l:List (Int×Int)} {g g':G} {b:Int},goG (bZ R C) g l b=some g'->g'.cells.length=g.cells.length/\g'.next=g.next/\(l≠[]->0<=g.next/\g.next<=100000)
 | [],g,g',b,h=>by simp only[goG]at h;cases h;exact⟨rfl,rfl,fun h=>absurd rfl h⟩
 | p::l,g,g',b,h=>by
  simp only[goG]at h;split at h
  ·rename_i g1 h1
   have h2:=zP h1;have h3:=qH h1;obtain⟨e1,e2,_⟩:=uY h;exact⟨e1.trans h2.1,e2.trans h2.2,fun _=>⟨h3.2.2.2.2.2.2.1,h3.2.2.2.2.2.2.2.1⟩⟩
  ·simp at h
theorem L5{p q:Nat}{R C:Int}{g g':G}{l:List (Int×Int)}(hl8:l.length=8)(hd:Dim R C)(hf:Fil H p q R C g)(hlp:lo<=p)(hlo:lo<=q)(h:kp (bZ R C) g l=some g') :
  Ev cp lo 180 [.pointer (some ⟨p,0,none⟩),.agg (eF l).toArray,.func (.func 132) #[.pointer (some ⟨p,0,none⟩)] #[]] H (fun _ H'=>Fil H' p q R C g'/\Ch p q H H'):=by
 unfold kp at h;split at h
 ·rename_i g2 hg
  cases h;have hpl:=Heap.get_lt hf.fp;have hql:=Heap.get_lt hf.fq;have hpv:=Bq l;rw[hl8]at hpv;refine stG rfl rfl ?_;unfold J3;simp only[kB,aC];refine aj ?_;refine bH (fun m S H'=>∃(k:Nat) (x y z w:Value) (g1:G),k<=8/\m=8-k/\S=[.pointer (some ⟨p,0,none⟩),.agg (eF l).toArray,.func (.func 132) #[.pointer (some ⟨p,0,none⟩)] #[],.pointer (some ⟨H.length,0,none⟩),x,y,.agg (eF l).toArray,.int .i64 k,z,w]/\Fil H' p q R C g1/\Ch p q H H'/\goG (bZ R C) g1 (l.drop k) k=some g2) 8 ?_ ?_
  ·exact⟨0,_,_,_,_,g,byO,byO,by rw[List.take_of_length_le byO];rfl,hf.mono (Ext.app _ _),Ch.app _ _,by simpa using hg⟩
  rintro m S H1 ⟨k,x,y,z,w,g1,hk,rfl,rfl,hf1,hch,hgo⟩;have hlen1:=hch.len;(try simp only[aC]);refine dK ?_ ?_<;>intro h
  ·have hk8:k<8:=by simp at h;omega
   have he:=Bp (l:=l) (k:=k) byO;have hsz:(eF l).toArray.size=16:=by simp[hpv]
   rw[qZ byO]at hgo;simp only[goG]at hgo;split at hgo
   ·rename_i g3 ha
    refine aj ?_;refine e9 ?_;refine aB (C3 (q:=q) hd (hf1.mono (Ext.app _ _)) hlo byO ha) ?_;rintro v H2 rfl;refine aj ?_;simp only[cN];have hlq:=zP ha;refine⟨8-(k+1),byO,k+1,_,_,_,_,g3,byO,rfl,by simp only[ap₀,Int.natCast_one];rfl,(hf1.mono (Ext.app _ _)).setq hlq.1 hlq.2,(hch.trans (Ch.app _ _)).trans (Ch.setq _ _),by simpa using hgo⟩
   ·simp at hgo
  ·have hk8:k=8:=by simp at h;omega
   subst hk8;rw[List.drop_of_length_le byO]at hgo;simp only[goG]at hgo;cases hgo;have fp:=hf1.fp;have hplen:=Heap.get_lt fp;have hnx:=uY hg;have hnb:=hnx.2.2 (by intro e;rw[e]at hl8;simp at hl8);rw[<-hnx.2.1]at hnb;clear hnx;refine aj ?_;refine eu (by simp(disch:=try exact dO)only[evB,xtr, *];rfl) ?_;refine⟨⟨by rw[aF hplen];rfl,by rw[aI hf1.ne];exact hf1.fq,hf1.ne⟩,hch.trans (Ch.setp _ _)⟩
 ·simp at h
theorem nY{p q:Nat}{R C:Int}{g g':G}{arr:Array Value}(l:List (Int×Int))(ha:arr=(eF l).toArray)(hl8:l.length=8)(hd:Dim R C)(hf:Fil H p q R C g)(hlp:lo<=p)(hlo:lo<=q)(h:kp (bZ R C) g l=some g') :
  Ev cp lo 180 [.pointer (some ⟨p,0,none⟩),.agg arr,.func (.func 132) #[.pointer (some ⟨p,0,none⟩)] #[]] H (fun _ H'=>Fil H' p q R C g'/\Ch p q H H'):=by
 subst ha;exact L5 hl8 hd hf hlp hlo h
theorem ja{r c:Int}(h:inB r c=true):-4000<=r/\r<=4000/\-4000<=c/\c<=4000:=by
 simp only[inB,ac₀,af₀]at h;omega
theorem A4{p q:Nat}{R C:Int}{g g':G}{r c:Int}(hb:inB r c=true)(hd:Dim R C)(hf:Fil H p q R C g)(hlp:lo<=p)(hlo:lo<=q)(h:kp (bZ R C) g (pl r c)=some g') :
  Ev cp lo 135 [.pointer (some ⟨p,0,none⟩),.int .i64 r,.int .i64 c,.func (.func 132) #[.pointer (some ⟨p,0,none⟩)] #[]] H (fun _ H'=>Fil H' p q R C g'/\Ch p q H H'):=by
 obtain⟨b1,b2,b3,b4⟩:=ja hb;refine stG rfl rfl ?_;unfold JM;simp only[kB,aC];refine e9 ?_;refine aB (nY (pl r c) (by simp only[eF,pl,List.flatMap_cons,List.flatMap_nil,am₀,List.nil_append]) rfl hd hf hlp hlo h) ?_;rintro v H2 hh;refine eu (by simp(disch:=try exact dO)only[evB,xtr, *];rfl) ?_;exact hh
set_option maxHeartbeats 4000000 in
theorem BH{p q:Nat}{R C:Int}{g g':G}{r c:Int}(hd:Dim R C)(hf:Fil H p q R C g)(hlp:lo<=p)(hlo:lo<=q)(h:gG (bZ R C) R C g r c=some g') :
  Ev cp lo 133 [.pointer (some ⟨p,0,none⟩),.int .i64 r,.int .i64 c,.func (.func 132) #[.pointer (some ⟨p,0,none⟩)] #[]] H (fun _ H'=>Fil H' p q R C g'/\Ch p q H H'):=by
 have hd':=hd;obtain⟨r0,r1,c0,c1⟩:=hd';have fp:=hf.fp;unfold gG at h;split at h
 ·simp at h
 rename_i ga ha;split at h
 ·simp at h
 rename_i gb hb;split at h
 ·simp at h
 rename_i gc hc;have hlast:=h;clear h;refine stG rfl rfl ?_;unfold JK;simp only[kB,aC];refine aj ?_;clear fp;refine iI (fun S' H'=>S'=[.pointer (some ⟨p,0,none⟩),.int .i64 r,.int .i64 c,.func (.func 132) #[.pointer (some ⟨p,0,none⟩)] #[],.int .i64 R,.int .i64 C]/\Fil H' p q R C ga/\Ch p q H H') ?_ ?_
 ·refine dK ?_ ?_<;>intro h
  ·have e:k1 R r c=true:=h
   rw[e]at ha;(try simp only[aC]);refine e9 ?_;refine aB (nY (YtmnlgdpdgjbfgaaGreat.c1 R C) (by simp only[eF,YtmnlgdpdgjbfgaaGreat.c1,List.flatMap_cons,List.flatMap_nil,am₀,List.nil_append]) rfl hd hf hlp hlo ha) ?_;rintro v H2 hh;(try simp only[aC]);exact⟨by trivial,hh⟩
  ·have e:k1 R r c=false:=h
   rw[e]at ha;cases ha;(try simp only[aC]);exact⟨by trivial,hf,Ch.refl _⟩
 rintro S' H1 ⟨rfl,hf1,hc1⟩;(try simp only[aC]);refine iI (fun S' H'=>S'=[.pointer (some ⟨p,0,none⟩),.int .i64 r,.int .i64 c,.func (.func 132) #[.pointer (some ⟨p,0,none⟩)] #[],.int .i64 R,.int .i64 C]/\Fil H' p q R C gb/\Ch p q H H') ?_ ?_
 ·refine dK ?_ ?_<;>intro h
  ·have e:k2 R C r c=true:=h
   rw[e]at hb;(try simp only[aC]);refine e9 ?_;refine aB (nY (YtmnlgdpdgjbfgaaGreat.c2 R C) (by simp only[eF,YtmnlgdpdgjbfgaaGreat.c2,List.flatMap_cons,List.flatMap_nil,am₀,List.nil_append]) rfl hd hf1 hlp hlo hb) ?_;rintro v H2 hh;(try simp only[aC]);exact⟨by trivial,hh.1,hc1.trans hh.2⟩
  ·have e:k2 R C r c=false:=h
   rw[e]at hb;cases hb;(try simp only[aC]);exact⟨by trivial,hf1,hc1⟩
 rintro S' H2 ⟨rfl,hf2,hc2⟩;(try simp only[aC]);refine iI (fun S' H'=>S'=[.pointer (some ⟨p,0,none⟩),.int .i64 r,.int .i64 c,.func (.func 132) #[.pointer (some ⟨p,0,none⟩)] #[],.int .i64 R,.int .i64 C]/\Fil H' p q R C gc/\Ch p q H H') ?_ ?_
 ·refine dK ?_ ?_<;>intro h
  ·have e:k3 R C r c=true:=h
   rw[e]at hc;(try simp only[aC]);refine e9 ?_;refine aB (nY (YtmnlgdpdgjbfgaaGreat.c3 R C) (by simp only[eF,YtmnlgdpdgjbfgaaGreat.c3,List.flatMap_cons,List.flatMap_nil,am₀,List.nil_append]) rfl hd hf2 hlp hlo hc) ?_;rintro v H2 hh;(try simp only[aC]);exact⟨by trivial,hh.1,hc2.trans hh.2⟩
  ·have e:k3 R C r c=false:=h
   rw[e]at hc;cases hc;(try simp only[aC]);exact⟨by trivial,hf2,hc2⟩
 rintro S' H3 ⟨rfl,hf3,hc3⟩;(try simp only[aC]);refine dK ?_ ?_<;>intro h
 ·have e:k4 R C r c=true:=h
  rw[e]at hlast;(try simp only[aC]);refine e9 ?_;refine aB (nY (YtmnlgdpdgjbfgaaGreat.c4 R C) (by simp only[eF,YtmnlgdpdgjbfgaaGreat.c4,List.flatMap_cons,List.flatMap_nil,am₀,List.nil_append]) rfl hd hf3 hlp hlo hlast) ?_;rintro v H2 hh;(try simp only[aC]);refine eu (by simp(disch:=try exact dO)only[evB,xtr, *];rfl) ?_;exact⟨hh.1,hc3.trans hh.2⟩
 ·have e:k4 R C r c=false:=h
  rw[e]at hlast;cases hlast;(try simp only[aC]);refine eu (by simp(disch:=try exact dO)only[evB,xtr, *];rfl) ?_;exact⟨hf3,hc3⟩
end Go.Proofs.YtmnlgdpdgjbfgaaGreat
