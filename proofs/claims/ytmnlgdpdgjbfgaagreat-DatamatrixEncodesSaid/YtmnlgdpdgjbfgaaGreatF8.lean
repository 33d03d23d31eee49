/- Lemmas. -/
import Derived.Test.YtmnlgdpdgjbfgaaGreatF7
import Derived.ProofKit
import Derived.OpenShut
import Derived.Carry
import Derived.JoinedCond
import Derived.WalkKit
set_option linter.all false
namespace Go.Abs
def CLe(callA callB:dq):Prop:=∀lo f args H r,callA lo f args H=some r->callB lo f args H=some r
def CLeR(callA callB:CallR):Prop:=∀lo f args H r,callA lo f args H=some r->callB lo f args H=some r
theorem CLeR.toRet{a b:CallR}(h:CLeR a b):CLe a.ret b.ret:=λlo f args H (v,H') e=>rW<|h lo f args H _<|nZ e
theorem CLeR.toPan{a b:CallR}(h:CLeR a b):CLe a.pan b.pan:=λlo f args H (v,H') e=>zj<|h lo f args H _<|sU e
theorem DX{a b:CallR}(c:CLeR a b){lo:Nat}{o:HOp}{vs:List Value}{H:Heap}{r:Value×Heap}(h:cz a lo o vs H=some r):cz b lo o vs H=some r:=by
 unfold cz at h;split at h
 .exact c.toPan _ _ _ _ _ h
 .exact h
 .simp at h
theorem Il{callA b:dq}(d:CLe callA b){lo:Nat}{o:HOp}{vs:List Value}{H:Heap}{r:Value×Heap}(h:hsem callA lo o vs H=some r):hsem b lo o vs H=some r:=by
 by_cases c:o.isCall=true
 .cases o<;>simp[HOp.isCall]at c
  all_goals
   cases vs with
   | nil=>simp[hsem]at h
   | cons a r=>
    cases a<;>try (simp[hsem]at h;done)
    rename_i fn first cap
    cases fn<;>try (simp[hsem]at h;done)
    simp[hsem]at h ⊢;exact d _ _ _ _ _ h
 .have e:o.isCall=false:=by simpa using c
  rw[yA e]at h ⊢;exact h
theorem B8{f g:List Value->Heap->Out}(a:∀S H r,f S H=some r->g S H=some r):∀(n m:Nat),n<=m->∀S H r,iter f n S H=some r->iter g m S H=some r
 | 0,_,_,_,_,_,h=>by grind[iter]
 | n+1,0,e,_,_,_,_=>by omega
 | n+1,m+1,e,S,H,r,h=>by
  simp[iter]at h ⊢;split at h
  next c b d=>
   rw[a _ _ _ d];exact B8 a n m byO c b r h
  grind
theorem F8{f g:List Value->Heap->Out}(a:∀S H r,f S H=some r->g S H=some r):∀(n m:Nat),n<=m->∀(x r:Ex×List Value×Heap),hop f n (some x)=some r->hop g m (some x)=some r
 | 0,m,_,(x,S,H),r,h=>by
  cases x with
  | exit j=>
   simp only[hop]at h;split at h
   .simp at h
   next b=>
    cases m<;>simp only[hop,if_neg b]<;>exact h
  | normal=>cases m<;>exact h
  | ret=>cases m<;>exact h
 | n+1,0,d,x,r,h=>by omega
 | n+1,m+1,d,(x,S,H),r,h=>by
  cases x with
  | exit j=>
   simp[hop]at h ⊢;split at h
   next b=>
    rw[if_pos b];cases c:f (.int .i64 ((j-aa:Nat):Int)::S) H with
    | none=>grind[hop]
    | some e=>
     rw[c]at h;rw[a _ _ _ c];exact F8 a n m byO e r h
   grind
  | normal=>exact h
  | ret=>exact h
theorem cH{callA f:CallR}(e:CLeR callA f){lo n m:Nat}(d:n<=m):∀(s:Stm) (S:List Value) (H:Heap) r,exec callA lo n s S H=some r->exec f lo m s S H=some r
 | .skip,S,H,r,h=>h
 | .exit i,S,H,r,h=>h
 | .ret,S,H,r,h=>h
 | .sets l k,S,H,r,h=>by assumption
 | .alt l s q,S,H,r,h=>by
  simp[exec]at h;split at h
  .simp[exec]
   split at h
   next t=>
    rw[if_pos t];exact cH e d s _ H r h
   next t=>
    rw[if_neg t];exact cH e d q _ H r h
  .simp at h
 | .scope b g,S,H,r,h=>by
  simp[exec]at h ⊢;cases u:exec callA lo n b S H with
  | none=>grind[hop]
  | some v=>
   rw[u]at h;rw[cH e d b S H v u];exact F8 (λS H r h=>cH e d g S H r h) n m d v r h
 | .dist a b,S,H,r,h=>by assumption
 | .hv l k A dst z a,S,H,r,h=>by
  simp[exec]at h ⊢;split at h
  .split at h
   next p=>
    simp[p,if_true];split at h
    .split at h
     .split at h
      next y=>
       rw[Il e.toRet y];exact h
      grind[DX,AV]
     .simp at h
    all_goals omega
   .simp at h
  .simp at h
 | .seq a b,S,H,r,h=>by
  simp[exec]at h ⊢;split at h
  next x w o=>
   rw[cH e d a _ _ _ o];exact cH e d b _ _ _ h
  .rw[cH e d a _ _ _ h]
   simp_all
 | .cond c a b,S,H,r,h=>by
  simp[exec]at h ⊢;split at h
  .exact cH e d a _ _ _ h
  .exact cH e d b _ _ _ h
  .simp at h
 | .block i b,S,H,r,h=>by
  simp[exec]at h ⊢;split at h
  next j x w o=>
   rw[cH e d b _ _ _ o];exact h
  .rw[cH e d b _ _ _ h]
   simp_all
 | .loop b,S,H,r,h=>by
  exact B8 (λS H r h=>cH e d b S H r h) n m d S H r h
theorem CE{cp:FuncId->Option CF}{a b:CallR}(d:CLeR a b){lo n m:Nat}(e:n<=m){g:FuncId}{args:List Value}{c:Value}{H H':Heap}(h:mg cp a lo n g args c H=some H'):mg cp b lo m g args c H=some H':=by
 unfold mg at h ⊢;split at h<;>try (simp at h)
 grind[cH]
theorem CD{cp:FuncId->Option CF}{a b:CallR}(f:CLeR a b){lo n m j:Nat}(g:n<=m){e:List E}{c d rest:Stm}{S:List Value}{H:Heap}{r:(Value ⊕ Value)×Heap}(h:kp cp a lo n e c d j rest S H=some r):kp cp b lo m e c d j rest S H=some r:=by
 unfold kp at h;split at h
 .grind[kp,cH]
 .grind[kp,cH]
 next k=>
  simp[kp,cH f g _ _ _ _ k];split at h<;>try (simp at h;done)
  rename_i i;simp[cH f g _ _ _ _ i];split at h<;>try (simp at h;done)
  grind[cH,CE]
 .simp at h
theorem pf{cp:FuncId->Option CF}:∀{n m:Nat},n<=m->CLeR (run cp n) (run cp m)
 | 0,_,_=>λ_ _ _ _ _ h=>by simp[run]at h
 | n+1,0,e=>by omega
 | n+1,m+1,e=>λlo f args H r h=>by
  simp[run]at h ⊢;split at h
  .split at h
   next d=>
    simp[d,if_true];split at h
    .split at h
     next c b a=>
      rw[cH (pf byO) byO _ _ _ _ a];exact h
     next c b a=>
      rw[cH (pf byO) byO _ _ _ _ a];exact h
     next j q c b a=>
      rw[cH (pf byO) byO _ _ _ _ a];exact h
     .simp at h
    .exact CD (pf byO) byO h
    .simp at h
   .simp at h
  .simp at h
theorem Cq{cp:FuncId->Option CF}{lo:Nat}{f:FuncId}{args:List Value}{H:Heap}{v:Value}{H':Heap}(n:Nat)(h:run cp n lo f args H=some (.inl v,H')){R:Value->Heap->Prop}(a:R v H'):Ev cp lo f args H R:=
 ⟨n,v,H',λ_ b=>pf b _ _ _ _ _ h,a⟩
def mv0(n:Nat):Mv:=⟨n,0,0,Nat.zero_le _,λh=>by simp at h⟩
theorem MC(n i:Nat):(mv0 n).f i=n+i:=by simp[mv0,Mv.f]
theorem oI{cp:FuncId->Option CF}(t:∀f cf,cp f=some cf->aL cf=true){f:FuncId}{args:List Value}(q:args.all fX=true){v:Value}{d:Heap}(n:Nat)(h:run cp n 0 f args []=some (.inl v,d)){lo:Nat}{H:Heap}(s:lo<=H.length){R:Value->Heap->Prop}
  (p:∀b H',Sh (mv0 H.length) v b->HSh (mv0 H.length) d H'->(∀i,i<H.length->H'[i]?=H[i]?)->R b H'):Ev cp lo f args H R:=by
 have a:LSh (mv0 H.length) args args:=by
  refine⟨rfl,λj x y k l=>?_⟩;rw[k]at l;cases l;exact gU<|List.all_eq_true.1 q _<|List.mem_of_getElem? k
 have⟨b,m,o,e,g⟩:=pg t n 0 lo f args args [] H _ d ⟨Nat.le_refl _,by simp[mv0];omega⟩ a ⟨by simp[mv0],λi c r=>by simp[Heap.get]at r⟩ h;cases b with
 | inr u=>exact e.elim
 | inl b=>
 exact Cq n o<|p b m e g.sh g.pre
inductive Ty where
 | bool
 | int (k:IntKind)
 | str
 | rcd (l:List Ty)
 | arr (n:Nat) (e:Ty)
 | sl (e:Ty)
mutual
def Ty.size:Ty->Nat
 | .rcd l=>Ty.sizes l
 | .arr n e=>n*Ty.size e
 | _=>1
def Ty.sizes:List Ty->Nat
 | []=>0
 | t::r=>Ty.size t+Ty.sizes r
end
mutual
def Ty.flat:Ty->Bool
 | .rcd l=>Ty.flats l
 | .arr _ e=>Ty.flat e
 | .sl _=>false
 | _=>true
def Ty.flats:List Ty->Bool
 | []=>true
 | t::r=>Ty.flat t&&Ty.flats r
end
mutual
def Ty.shallow:Ty->Bool
 | .rcd l=>Ty.shallows l
 | .arr _ e=>Ty.flat e
 | .sl e=>Ty.flat e
 | _=>true
def Ty.shallows:List Ty->Bool
 | []=>true
 | t::r=>Ty.shallow t&&Ty.shallows r
end
def qT(P:Program)(g:TypeId->Option Ty):Nat->List Field->Option (List Ty)
 | _,[]=>some []
 | off,f::r=>match g f.type with
  | some ty=>if f.offset=off/\P.cellsOf f.type=ty.size then
    match qT P g (off+ty.size) r with
    | some l=>some (ty::l)
    | none=>none
   else none
  | none=>none
def ie(P:Program):Nat->TypeId->Option Ty
 | 0,_=>none
 | d+1,t=>match P.underlying t with
  | some .bool=>some .bool
  | some (.int k)=>some<|.int k
  | some .string=>some .str
  | some (.slice e)=>match ie P d e with
   | some ty=>if P.cellsOf e=ty.size/\0<ty.size then some (.sl ty) else none
   | none=>none
  | some (.struct fs)=>match qT P (ie P d) 0 fs.toList with
   | some l=>if P.cellsOf t=Ty.sizes l then some (.rcd l) else none
   | none=>none
  | some (.array n e)=>match ie P d e with
   | some ty=>if P.cellsOf e=ty.size/\P.cellsOf t=n*ty.size then some (.arr n ty) else none
   | none=>none
  | _=>none
def HasN(p:List Value->Prop):Nat->List Value->Prop
 | 0,vs=>vs=[]
 | n+1,vs=>∃a b,vs=a++b/\p a/\HasN p n b
mutual
def Has(B:Nat)(H:Heap):Ty->List Value->Prop
 | .bool,vs=>∃b,vs=[.bool b]
 | .int k,vs=>∃n,vs=[.int k n]/\k.min<=n/\n<=k.max
 | .str,vs=>∃s:ByteArray,vs=[.string s]/\s.size<=B
 | .rcd l,vs=>HasAll B H l vs
 | .arr n e,vs=>HasN (Has B H e) n vs
 | .sl e,vs=>vs=[.slice none 0 0]\/∃i len cap c,vs=[.slice (some ⟨i,0,none⟩) len cap]/\len<=cap/\cap<=B/\i<H.length/\H.get i=some c/\HasN (Has B H e) cap c
def HasAll(B:Nat)(H:Heap):List Ty->List Value->Prop
 | [],vs=>vs=[]
 | t::r,vs=>∃a b,vs=a++b/\Has B H t a/\HasAll B H r b
end
theorem HasN.mono{p q:List Value->Prop}(h:∀vs,p vs->q vs):∀(n:Nat) (vs:List Value),HasN p n vs->HasN q n vs
 | 0,_,e=>e
 | n+1,_,⟨a,b,e,c,d⟩=>⟨a,b,e,h _ c,HasN.mono h n b d⟩
def Longer(H H':Heap):Prop:=∃r,H'=H++r
theorem Longer.refl(H:Heap):Longer H H:=⟨[],by simp⟩
theorem Longer.trans{H c d:Heap}(a:Longer H c)(b:Longer c d):Longer H d:=by obtain⟨r,rfl⟩:=a;obtain⟨s,rfl⟩:=b;exact⟨r++s,by simp⟩
theorem Longer.get{H H':Heap}(h:Longer H H'){i:Nat}{c:List Value}(a:H.get i=some c):H'.get i=some c:=by
 obtain⟨r,rfl⟩:=h
 grind[eR]
theorem Longer.len{H H':Heap}(h:Longer H H'):H.length<=H'.length:=by obtain⟨r,rfl⟩:=h;simp
mutual
theorem Has.mono{B:Nat}{H H':Heap}(h:Longer H H'):∀(t:Ty) (vs:List Value),Has B H t vs->Has B H' t vs
 | .bool,_,e=>by simpa only[Has]using e
 | .int k,_,e=>by simpa only[Has]using e
 | .str,_,e=>by simpa only[Has]using e
 | .rcd l,vs,e=>by simp[Has]at e ⊢;exact HasAll.mono h l vs e
 | .arr n e,vs,x=>by simp[Has]at x ⊢;exact HasN.mono (λvs=>Has.mono h e vs) n vs x
 | .sl e,vs,x=>by
  simp only[Has]at x ⊢;rcases x with x|⟨i,len,cap,c,h1,h2,h3,h4,h5,h6⟩
  .exact .inl x
  .exact .inr ⟨i,len,cap,c,h1,h2,h3,bd₀ h4 h.len,h.get h5,HasN.mono (λvs=>Has.mono h e vs) cap c h6⟩
theorem HasAll.mono{B:Nat}{H H':Heap}(h:Longer H H'):∀(l:List Ty) (vs:List Value),HasAll B H l vs->HasAll B H' l vs
 | [],_,e=>by simpa only[HasAll]using e
 | t::r,vs,e=>by
  simp[HasAll]at e ⊢;have⟨a,b,h1,h2,h3⟩:=e;exact⟨a,b,h1,Has.mono h t a h2,HasAll.mono h r b h3⟩
end
mutual
def Fits{X:Type}(B:Nat):DataW X->Prop
 | .lit (.string l)=>l.length<=B
 | .slice es sp=>es.length+sp.length<=B/\FitsAll B es/\FitsAll B sp
 | .agg ds=>FitsAll B ds
 | _=>True
def FitsAll{X:Type}(B:Nat):List (DataW X)->Prop
 | []=>True
 | d::r=>Fits B d/\FitsAll B r
end
theorem FitsAll.mem{X:Type}{B:Nat}:∀{l:List<|DataW X} {d:DataW X},FitsAll B l->d ∈ l->Fits B d
 | [],_,_,h=>by simp at h
 | x::r,d,h,a=>by
  rcases List.mem_cons.1 a with rfl|a
  .exact h.1
  .exact FitsAll.mem h.2 a
abbrev Small{X:Type}(B:Nat)(d:DataW X):Prop:=maxLen<=B\/Fits B d
section
variable {X:Type}{enc:TypeId×Value->X}{P:Program}{w:World}{B:Nat}
abbrev trd(enc:TypeId×Value->X)(P:Program)(w:World):=DataW.trod enc P w 0 (λ_=>true) true
theorem Pf{k:IntKind}{n:Int}(h:(Lit.int k n).wf=true):k.min<=n/\n<=k.max:=by grind[Lit.wf]
structure FlatOK (B:Nat)(H:Heap)(ty:Ty)(cs:List Value):Prop where
 has:Has B H ty cs
 plain:cs.all bN=true
 len:cs.length=ty.size
theorem vX{p:List Value->Prop}(k:Nat):∀(n:Nat) (cs:List Value),cs.length=n*k->(∀i,i<n->p ((cs.drop<|i*k).take k))->HasN p n cs
 | 0,cs,a,_=>by grind[HasN]
 | n+1,cs,a,h=>by
  refine⟨cs.take k,cs.drop k,(List.take_append_drop k cs).symm,by simpa using h 0 byO,vX k n (cs.drop k) (by grind) λi b=>?_⟩
  grind[List.drop_drop]
theorem lY(k:Nat):∀(n:Nat) (cs:List Value),cs.length=n*k->(∀i,i<n->((cs.drop<|i*k).take k).all bN=true)->cs.all bN=true
 | 0,cs,a,_=>by
  simp_all
 | n+1,cs,a,h=>by
  have b:(cs.take k).all bN=true:=by simpa using h 0 byO
  have c:(cs.drop k).all bN=true:=lY k n (cs.drop k) (by grind) (λi d=>by
   grind[List.drop_drop])
  grind[List.take_append_drop]
theorem mI(H:Heap):∀(d:Nat) (t:TypeId) (ty:Ty) (u:Nat) (cs:List Value) (x:DataW X×List MemPlace),ie P d t=some ty->ty.flat=true->trd enc P w u t cs=some x->Small B x.1->FlatOK B H ty cs
 | 0,_,_,_,_,_,h,_,_,_=>by grind[ie]
 | d+1,t,ty,u,cs,x,a,Q,K,O=>by
  simp[ie]at a;split at a
  next q=>
   cases a;obtain⟨b,rfl,rfl⟩:=DataW.trod_bool q K;exact⟨by grind[Has],rfl,rfl⟩
  next k q=>
   cases a;obtain⟨n,rfl,rfl,Z⟩:=DataW.trod_int q K;exact⟨by simp_all[Has,Pf],rfl,rfl⟩
  next q=>
   cases a;obtain⟨s,rfl,rfl,Z⟩:=DataW.trod_string q K;refine⟨?_,rfl,rfl⟩;simp only[Has];refine⟨s,rfl,?_⟩;rcases O with O|O
   .omega
   assumption
  .grind[Ty.flat]
  next V q=>
   split at a
   next l j=>
    split at a
    next Y=>
     cases a;obtain⟨xs,n,rfl,rfl,I,L,M⟩:=DataW.trod_struct q K;simp[Ty.flat]at Q;have T:∀(p:List Field) (c D:Nat) (l:List Ty),qT P (ie P d) c p=some l->Ty.flats l=true->cs.length=c+Ty.sizes l->(∀i f,p[i]?=some f->trd enc P w n f.type ((cs.drop f.offset).take<|P.cellsOf f.type)=xs[D+i]?)->(D+p.length<=xs.length) ->
       HasAll B H l (cs.drop c)/\(cs.drop c).all bN=true:=by
      intro p
      induction p with
      | nil=>
       intro c D l j _ G _ _;simp[qT]at j;cases j;have:cs.drop c=[]:=by simp_all[Ty.sizes]
       grind[HasAll]
      | cons f r ih=>
       intro c D l j z G v F;simp[qT]at j;split at j
       next ty a=>
        split at j
        next N=>
         split at j
         next l' A=>
          cases j;simp[Ty.flats,ac₀]at z;simp[Ty.sizes]at G;have y:=v 0 f rfl;rw[N.1,N.2]at y;simp at F;have C:D+0<xs.length:=byO;rw[bc₀ C]at y;have S:Small B (xs[D+0]).1:=by
           grind[Fits,FitsAll.mem]
          have f0:=mI H d f.type ty n _ _ a z.1 y S;have f1:=ih (c+ty.size) (D+1) l' A z.2 byO (λi g hg=>by
           have:=v (i+1) g (by simp_all)
           grind) byO
          grind[List.drop_drop,List.take_append_drop,HasAll,FlatOK.has,FlatOK.plain]
         .simp at j
        .simp at j
       .simp at j
     have:=T V.toList 0 0 l j Q byO (λi f W=>by grind) (by simp[L]);refine⟨by grind[Has],by simp_all,by grind[Ty.size]⟩
    simp_all
   simp_all
  next n e q=>
   split at a
   next o J=>
    split at a
    next N=>
     cases a;obtain⟨xs,m,rfl,rfl,I,L,M⟩:=DataW.trod_array q K;have U:∀i,i<n->FlatOK B H o ((cs.drop<|i*o.size).take o.size):=by
      intro i R;have y:=M i R;rw[N.1]at y;have C:i<xs.length:=byO;rw[bc₀ C]at y;apply mI H d e o m _ _ J Q y
      grind[Fits,FitsAll.mem]
     have A:cs.length=n*o.size:=byO;refine⟨by grind[Has,vX,FlatOK.has],lY o.size n cs A λi R=>(U i R).plain,by assumption⟩
    simp_all
   simp_all
  simp_all
structure HR (φ:Map)(G:Nat)(H:Heap)(w:World):Prop where
 cell:∀i c,H.get i=some c->∃p arr ty fr,φ i=some p/\w.heap[p.b]?=some (.cells arr ty fr)/\arr.size=p.s+p.n/\c.length<=p.n/\(∀(j:Nat) v,c[j]?=some v->∃u,arr[p.s+j]?=some u/\VRel φ v u)
 dom:∀i p,φ i=some p->i<H.length
 glob:∀g,g<G->∃n,φ g=some ⟨g,0,n⟩
 plc:∀i p,φ i=some p->p.b<w.heap.size
theorem HR.rel{φ:Map}{G:Nat}{H:Heap}(h:HR φ G H w):HRel φ H.length G H w:=
 ⟨λi c a=>by
  have⟨p,arr,ty,e,f,g,k,l,m⟩:=h.cell i c a;exact⟨p,arr,ty,e,f,g,k,l,m,λb=>absurd (Heap.get_lt a) byO⟩,
  λi j c d p q a _ _ _ b=>absurd (Heap.get_lt a) byO,h.dom,h.glob,h.plc⟩
def ZOK(w:World)(cs:List Value):Prop:=∀a len,Value.slice (some a) len 0 ∈ cs->a.spot=none/\∃c t f,w.heap[a.block]?=some (.cells c t f)/\a.off<=c.size
theorem ZOK.sub{cs b:List Value}(h:ZOK w cs)(d:∀v ∈ b,v ∈ cs):ZOK w b:=λa len c=>h a len<|d _ c
structure Lifted (φ:Map)(G:Nat)(H:Heap)(w:World)(B:Nat)(ty:Ty)(cs:List Value)(φ':Map)(H':Heap)(vs:List Value):Prop where
 hr:HR φ' G H' w
 le:φ.le φ'
 longer:Longer H H'
 has:Has B H' ty vs
 rel:LRel φ' vs cs
theorem Has.plain_lift{φ:Map}{G:Nat}{H:Heap}{ty:Ty}{cs:List Value}(a:HR φ G H w)(h:FlatOK B H ty cs):Lifted φ G H w B ty cs φ H cs:=
 ⟨a,Map.le_refl φ,Longer.refl H,h.has,cT φ h.plain⟩
theorem HR.add{φ:Map}{G:Nat}{H:Heap}(m:HR φ G H w)(_:G<=H.length){b s:Nat}{arr:Array Value}{ty:TypeId}{y:Nat×Nat}(z:w.heap[b]?=some (.cells arr ty y)){c:List Value}(N:s+c.length<=arr.size)
  (J:∀(j:Nat) v,c[j]?=some v->arr[s+j]?=some v/\bN v=true):HR (φ.set H.length ⟨b,s,arr.size-s⟩) G (H++[some c]) w:=by
 have k:φ.le<|φ.set H.length ⟨b,s,arr.size-s⟩:=by
  intro i p h;have:=m.dom i p h;simp[Map.set];rw[if_neg byO];exact h
 refine⟨λi d l=>?_,λi p h=>?_,λg K=>?_,λi p h=>?_⟩
 .rw[eR]at l
  by_cases L:i<H.length
  .rw[ax₀ L]at l
   have⟨p,a,t,f,A,C,D,F,I⟩:=m.cell i d<|eR.2 l;exact⟨p,a,t,f,k _ _ A,C,D,F,λj v x=>by have⟨u,o,q⟩:=I j v x;exact⟨u,o,q.mono k⟩⟩
  .have r:=(List.getElem?_eq_some_iff.1 l).1
   simp at r;obtain rfl:i=H.length:=byO;simp at l;subst l;refine⟨⟨b,s,arr.size-s⟩,arr,ty,y,by simp[Map.set],z,by simp;omega,by simp;omega,λj v x=>?_⟩;have⟨o,q⟩:=J j v x;exact⟨v,o,gT _ q⟩
 .simp[Map.set]at h
  split at h
  next e=>subst e;simp
  .have:=m.dom i p h;simp;omega
 .have⟨n,M⟩:=m.glob g K
  exact⟨n,k _ _ M⟩
 .simp[Map.set]at h
  split at h
  .cases h;exact(Array.getElem?_eq_some_iff.1 z).1
  .exact m.plc i p h
theorem rI{a:Addr}{v:Value}(h:w.cell? a=some v):a.spot=none/\∃c t f,w.heap[a.block]?=some (.cells c t f)/\c[a.off]?=some v:=by
 unfold World.cell? at h;split at h
 all_goals simp_all
theorem oR{G:Nat}:∀(d:Nat) (t:TypeId) (ty:Ty) (J:Nat) (cs:List Value) (x:DataW X×List MemPlace),ie P d t=some ty->ty.shallow=true->trd enc P w J t cs=some x->Small B x.1->ZOK w cs ->
  ∀(φ:Map) (H:Heap),HR φ G H w->G<=H.length->∃C H' vs,Lifted φ G H w B ty cs C H' vs
 | 0,_,_,_,_,_,h,_,_,_,_=>by simp[ie]at h
 | d+1,t,ty,J,cs,x,k,F,hx,z,hz=>by
  intro φ H S hG;by_cases hf:ty.flat=true
  .exact⟨φ,H,cs,Has.plain_lift S<|mI H (d+1) t ty J cs x k hf hx z⟩
  simp[ie]at k;split at k
  .cases k;simp[Ty.flat]at hf
  .cases k;simp[Ty.flat]at hf
  .cases k;simp[Ty.flat]at hf
  next e hu=>
   split at k
   next b Y=>
    split at k
    next hc=>
     cases k;simp[Ty.shallow]at F;rcases DataW.trod_slice hu hx with ⟨rfl,_⟩|⟨a,len,cap,Z,rest,n,rfl,rfl,rfl,hb,R0,y1,x0,he,X0,_⟩
     .exact⟨φ,H,[.slice none 0 0],S,Map.le_refl φ,Longer.refl H,by rw[Has.eq_def];exact .inl rfl,cT φ rfl⟩
     .obtain⟨W0,T0⟩:=X0 rfl
      have l0:∀i,i<cap->∃o y,w.cells? 0 (a.add<|i*b.size) b.size=some o/\trd enc P w n e o=some y/\y ∈ Z++rest:=by
       intro i O;by_cases z0:i<len
       .have K:=he i z0
        rw[bc₀ byO,ae₀,hc.1]at K;obtain⟨o,h1,h2⟩:=K;exact⟨o,_,h1,h2,List.mem_append_left _<|List.getElem_mem _⟩
       .have K:=T0 (i-len) byO
        rw[bc₀ byO,ae₀,hc.1,show len+(i-len)=i by omega]at K;obtain⟨o,h1,h2⟩:=K;exact⟨o,_,h1,h2,List.mem_append_right _<|List.getElem_mem _⟩
      have A:∀i j,i<cap->j<b.size->∃o,w.cells? 0 (a.add<|i*b.size) b.size=some o/\o.length=b.size/\w.cell? ((a.add<|i*b.size).add j)=o[j]?/\FlatOK B H b o:=by
       intro i j O hj;obtain⟨o,y,h1,h2,h3⟩:=l0 i O;have hs:=World.cells?_some h1;have k0:Small B y.1:=by
        rcases z with z|z
        .exact .inl z
        .simp[Fits]at z
         rcases List.mem_append.1 h3 with h3|h3
         .exact .inr<|z.2.1.mem<|List.mem_map.2 ⟨_,h3,rfl⟩
         .exact .inr<|z.2.2.mem<|List.mem_map.2 ⟨_,h3,rfl⟩
       exact⟨o,h1,hs.2.1,hs.2.2 j hj,mI H d e b n o y Y F h2 k0⟩
      have q:a.spot=none/\∃c t f,w.heap[a.block]?=some (.cells c t f)/\a.off+cap*b.size<=c.size:=by
       by_cases K:cap=0
       .subst K
        obtain⟨z1,c,t,f,z2,z3⟩:=hz a len (by simp);exact⟨z1,c,t,f,z2,by simpa using z3⟩
       .obtain⟨u1,_,q2,q3,_⟩:=A 0 0 byO hc.2
        rw[bc₀ byO]at q3;simp[Addr.add]at q3;obtain⟨z1,c,t,f,z2,z3⟩:=rI q3;refine⟨z1,c,t,f,z2,?_⟩;obtain⟨w1,_,r2,r3,_⟩:=A (cap-1) (b.size-1) byO byO;rw[bc₀ byO]at r3;obtain⟨_,c',t',f',y2,y3⟩:=rI r3;have q:((a.add<|(cap-1)*b.size).add<|b.size-1).block=a.block:=by
         unfold Addr.add;split<;>split<;>rfl
        have p0:((a.add<|(cap-1)*b.size).add<|b.size-1).off=a.off+(cap-1)*b.size+(b.size-1):=by
         unfold Addr.add;split<;>split<;>simp_all
        rw[q,z2]at y2;cases y2;have R:=(Array.getElem?_eq_some_iff.1 y3).1;rw[p0]at R;have:cap*b.size=(cap-1)*b.size+b.size:=by
         obtain⟨m,rfl⟩:∃m,cap=m+1:=⟨cap-1,byO⟩;simp[Nat.succ_mul]
        omega
      obtain⟨N,arr,at',fr,q,M⟩:=q;obtain⟨ab,Q,r1⟩:=a;simp only at N;subst N;simp only at q M;have m0:∀n,(⟨ab,Q,none⟩:Addr).add n=⟨ab,Q+n,none⟩:=dM ab Q
      let c:=(arr.toList.drop Q).take<|cap*b.size
      have c0:c.length=cap*b.size:=by simp[c];omega
      have L:∀i,i<cap->FlatOK B H b ((c.drop<|i*b.size).take b.size):=by
       intro i O;obtain⟨o,q1,q2,_,q4⟩:=A i 0 O hc.2;have:(c.drop<|i*b.size).take b.size=o:=by
        apply List.ext_getElem?;intro j;by_cases hj:j<b.size
        .obtain⟨x1,q0,_,m1,_⟩:=A i j O hj
         rw[q1]at q0;cases q0;rw[<-m1,m0,dM];have w0:(i+1)*b.size<=cap*b.size:=Nat.mul_le_mul_right _ O;rw[Nat.succ_mul]at w0;rw[List.getElem?_take,if_pos hj,List.getElem?_drop,List.getElem?_take,if_pos byO,List.getElem?_drop];simp[World.cell?,q,Nat.add_assoc]
        .rw[av₀ (by simp;omega),av₀ byO]
       rw[this];exact q4
      have S0:c.all bN=true:=lY b.size cap c c0 λi O=>(L i O).plain;have b0:=S.add hG q (c:=c) (s:=Q) (by rw[c0];exact M) (λj v U=>by
       refine⟨?_,List.all_eq_true.1 S0 v<|List.mem_of_getElem? U⟩;simp[c]at U;rw[List.getElem?_take]at U;split at U
       .rw[List.getElem?_drop]at U;simpa using U
       .simp at U)
      refine⟨_,_,[.slice (some ⟨H.length,0,none⟩) len cap],b0,?_,⟨_,rfl⟩,?_,?_⟩
      .intro i p hp
       have:=S.dom i p hp;simp[Map.set];rw[if_neg byO];exact hp
      .simp only[Has]
       refine .inr ⟨H.length,len,cap,c,rfl,R0,?_,by simp,?_,?_⟩
       .rcases z with z|z
        .omega
        .simp[Fits]at z
         have:=z.1;simp[x0,W0]at this;omega
       .rw[eR];simp
       .exact vX b.size cap c c0 λi O=>Has.mono ⟨_,rfl⟩ _ _ (L i O).has
      .have:=VRel.slice (φ:=φ.set H.length ⟨ab,Q,arr.size-Q⟩) H.length 0 len cap ⟨ab,Q,arr.size-Q⟩ (by simp[Map.set])
       exact LRel.cons this<|LRel.nil _
    .simp at k
   .simp at k
  next fs hu=>
   split at k
   next l D=>
    split at k
    next Y0=>
     cases k;obtain⟨xs,n,rfl,rfl,o0,Z0,b1⟩:=DataW.trod_struct hu hx;simp[Ty.shallow]at F;have e1:∀(I:List Field) (u V:Nat) (l:List Ty),qT P (ie P d) u I=some l->Ty.shallows l=true->cs.length=u+Ty.sizes l->(∀i f,I[i]?=some f->trd enc P w n f.type ((cs.drop f.offset).take<|P.cellsOf f.type)=xs[V+i]?)->(V+I.length<=xs.length) ->
       ∀(φ:Map) (H:Heap),HR φ G H w->G<=H.length->∃C H' vs,HR C G H' w/\φ.le C/\Longer H H'/\HasAll B H' l vs/\LRel C vs (cs.drop u):=by
      intro I
      induction I with
      | nil=>
       intro u V l D _ g0 _ _ φ H S hG;simp[qT]at D;cases D;have:cs.drop u=[]:=by simp[Ty.sizes]at g0 ⊢;omega
       rw[this];exact⟨φ,H,[],S,Map.le_refl φ,Longer.refl H,by simp[HasAll],LRel.nil φ⟩
      | cons f r ih=>
       intro u V l D e0 g0 W n0 φ H S hG;simp[qT]at D;split at D
       next ty k=>
        split at D
        next hc=>
         split at D
         next l' H0=>
          cases D;simp[Ty.shallows,ac₀]at e0;simp[Ty.sizes]at g0;have K:=W 0 f rfl;rw[hc.1,hc.2]at K;simp[ak₀]at n0;have R:V+0<xs.length:=byO;rw[bc₀ R]at K;have k0:Small B (xs[V+0]).1:=by
           rcases z with z|z
           .exact .inl z
           .simp[Fits]at z
            exact .inr<|z.mem<|List.mem_map.2 ⟨_,List.getElem_mem R,rfl⟩
          obtain⟨o1,H1,r0,L1⟩:=oR (G:=G) d f.type ty n _ _ k e0.1 K k0 (hz.sub λv U=>List.mem_of_mem_drop<|List.mem_of_mem_take U) φ H S hG;obtain⟨p1,H2,s0,a1,a2,a3,a4,a5⟩:=ih (u+ty.size) (V+1) l' H0 e0.2 byO (λi g hg=>by
           have:=W (i+1) g (by simpa using hg);rw[show V+1+i=V+(i+1) by omega];exact this) byO o1 H1 L1.hr<|Nat.le_trans hG L1.longer.len
          have T:cs.drop u=(cs.drop u).take ty.size++cs.drop (u+ty.size):=by
           rw[<-List.drop_drop,List.take_append_drop]
          refine⟨p1,H2,r0++s0,a1,Map.le_trans L1.le a2,L1.longer.trans a3,?_,?_⟩
          .simp[HasAll]
           exact⟨r0,s0,rfl,Has.mono a3 _ _ L1.has,a4⟩
          .rw[T];exact(L1.rel.mono a2).append a5
         .simp at D
        .simp at D
       .simp at D
     obtain⟨C,H',vs,a1,a2,a3,a4,a5⟩:=e1 fs.toList 0 0 l D F (by rw[o0,Y0];omega) (λi f y0=>by simpa using b1 i f (by simpa using y0)) (by simp[Z0]) φ H S hG;exact⟨C,H',vs,a1,a2,a3,by simp[Has];exact a4,by simpa using a5⟩
    .simp at k
   .simp at k
  next n e hu=>
   split at k
   next b Y=>
    split at k
    .cases k
     simp[Ty.shallow]at F;simp only[Ty.flat]at hf;exact absurd F hf
    .simp at k
   .simp at k
  .simp at k
end
open Go.ChangeShapes Go.WideShapes Go.ChangeAt Go.RowKit
theorem D6{P:Program}{c:TypeId->Bool}:∀{d:Nat} {e:TypeId} {a b n:Nat},rowAt P c d e a b n=true->b<=a*P.cellsOf e
 | 0,_,_,_,_,h=>by grind[rowAt]
 | d+1,e,a,b,n,h=>by
  simp only[rowAt]at h;split at h
  .simp at h
  next g=>
   simp at h;have i:=Nat.div_add_mod b<|P.cellsOf e;have j:=Nat.mod_lt b<|Nat.pos_of_ne_zero g;rcases h with h|h
   .have f:b/P.cellsOf e<=a:=byO
    have:=Nat.mul_le_mul_left (P.cellsOf e) f
    grind
   .have f:b/P.cellsOf e+1<=a:=byO
    have:=Nat.mul_le_mul_left (P.cellsOf e) f
    grind
theorem sI{P:Program}:∀{d:Nat} {e:TypeId} {a b:Nat} {u:TypeId} {n:Nat},liesAt P d e a b u n=true->b<=a*P.cellsOf e
 | 0,_,_,_,_,_,h=>by grind[liesAt]
 | d+1,e,a,b,u,n,h=>by
  simp[liesAt,ar₀]at h;rcases h with h|h
  .exact D6 h
  .split at h
   .exact sI h
   .simp at h
section
variable {X:Type}{enc:TypeId×Value->X}{P:Program}{w:World}
theorem qU{r:Reach}{base:Nat}{u:TypeId}{a:Addr}{len:Nat}(h:Cell.okWide P w r base u<|.slice (some a) len 0):a.spot=none/\∃c t f,w.heap[a.block]?=some (.cells c t f)/\a.off<=c.size:=by
 have d:Cell.ok P w r base u<|.slice (some a) len 0:=by
  simp_all[Cell.okWide]
 unfold Cell.ok at d;split at d<;>rename_i e<;>first|(cases e;done)|skip
 .cases e
  have⟨_,_,i⟩:=d;have⟨_,k,row,cells,b,j⟩:=i;refine⟨k,?_⟩;unfold World.shape? at b;split at b
  next c l f g=>
   simp at b;refine⟨c,l,f,g,?_⟩;have m:=sI j;have n:=Nat.div_mul_le_self cells<|P.cellsOf row;omega
  simp_all
 simp_all
theorem Po{r:Reach}{base:Nat}{t:TypeId}{v:Value}(h:Value.okWide P w r base t v):ZOK w v.cells.toList:=by
 intro a len e;have b:(∃cs,v=.agg cs/\cs.size=P.cellsOf t/\Row.okWide P w r base t cs)->a.spot=none/\∃c t f,w.heap[a.block]?=some (.cells c t f)/\a.off<=c.size:=by
  rintro⟨cs,rfl,_,g,_,_,d⟩
  grind[Value.cells,List.getElem?_of_mem,qU]
 unfold Value.okWide at h;split at h
 .exact b h
 .exact b h
 .cases v<;>simp[Value.cells]at e
  .grind[qU]
  simp_all[Cell.okWide,Cell.ok]
def HasArg(B:Nat)(H:Heap)(ty:Ty)(v:Value):Prop:=
 match ty with
 | .rcd l=>∃cs:Array Value,v=.agg cs/\HasAll B H l cs.toList
 | .arr n e=>∃cs:Array Value,v=.agg cs/\HasN (Has B H e) n cs.toList
 | ty=>Has B H ty [v]
def nf(B:Nat)(H:Heap):List Ty->List Value->Prop
 | [],vs=>vs=[]
 | t::r,vs=>∃a b,vs=a::b/\HasArg B H t a/\nf B H r b
theorem HasArg.mono{B:Nat}{H H':Heap}(h:Longer H H'){ty:Ty}{v:Value}(e:HasArg B H ty v):HasArg B H' ty v:=by
 unfold HasArg at e ⊢
 grind[HasAll.mono,HasN.mono,Has.mono]
theorem I9{B:Nat}{H:Heap}{ty:Ty}{vs:List Value}(h:Has B H ty vs)(a:∀l,ty≠.rcd l)(b:∀n e,ty≠.arr n e):∃v,vs=[v]/\Has B H ty [v]:=by
 cases ty with
 | bool=>grind[Has]
 | int k=>grind[Has]
 | str=>grind[Has]
 | rcd l=>simp_all
 | arr n e=>simp_all
 | sl e=>
  grind[Has]
theorem Hd{d:Nat}{t:TypeId}{l:List Ty}(h:ie P d t=some (.rcd l)):∃a,P.underlying t=some (.struct a):=by
 cases d with
 | zero=>grind[ie]
 | succ d=>
  grind[ie]
theorem Ha{d:Nat}{t:TypeId}{n:Nat}{e:Ty}(h:ie P d t=some (.arr n e)):∃m u,P.underlying t=some (.array m u):=by
 cases d with
 | zero=>grind[ie]
 | succ d=>
  grind[ie]
theorem Fs{B G:Nat}{d:Nat}{t:TypeId}{ty:Ty}{v:Value}{x:DataW X}{ps:List MemPlace}{r:Reach}{base:Nat}(h:ie P d t=some ty)(q:ty.shallow=true)
  (z:DataW.Trod enc P w 0 (λ_=>true) true t v x ps) (j:Value.okWide P w r base t v) (I:Small B x) {φ:Map} {H:Heap} (M:HR φ G H w) (J:G<=H.length) :
  ∃b H' c,HR b G H' w/\φ.le b/\Longer H H'/\HasArg B H' ty c/\VRel b c v:=by
 have⟨i,z⟩:=z;have⟨b,H',vs,L⟩:=oR d t ty i _ _ h q z I (Po j) φ H M J;have f:(∃cs,v=.agg cs)->(∀cs:Array Value,v=.agg cs->∃c:Array Value,vs=c.toList/\VRel b (.agg c) v):=by
  rintro _ cs rfl;refine⟨vs.toArray,by simp,?_⟩;have k:=L.rel;simp[Value.cells]at k;have:=LRel.arr (a:=vs.toArray) (a':=cs) |>.1 byO;exact .agg _ _ this.1 this.2
 by_cases C:∃l,ty=.rcd l
 .obtain⟨l,rfl⟩:=C
  have⟨A,s⟩:=Hd h;simp[Value.okWide,s]at j;obtain⟨cs,rfl,_⟩:=j;obtain⟨c,rfl,g⟩:=f ⟨cs,rfl⟩ cs rfl;have o:=L.has;exact⟨b,H',.agg c,L.hr,L.le,L.longer,⟨c,rfl,o⟩,g⟩
 by_cases D:∃n e,ty=.arr n e
 .obtain⟨n,e,rfl⟩:=D
  have⟨m,u,s⟩:=Ha h;simp[Value.okWide,s]at j;obtain⟨cs,rfl,_⟩:=j;obtain⟨c,rfl,g⟩:=f ⟨cs,rfl⟩ cs rfl;have o:=L.has;exact⟨b,H',.agg c,L.hr,L.le,L.longer,⟨c,rfl,o⟩,g⟩
 .obtain⟨a,rfl,N⟩:=I9 L.has (λl e=>C ⟨l,e⟩) λn e F=>D ⟨n,e,F⟩
  refine⟨b,H',a,L.hr,L.le,L.longer,?_,?_⟩
  .simp_all[HasArg]
  .have k:=L.rel
   have p:∀cs,v≠.agg cs:=by
    rintro cs rfl;have K:∀A,P.underlying t≠some (.struct A):=by
     cases d with
     | zero=>grind[ie]
     | succ d=>
      grind[ie]
    have p:∀n e,P.underlying t≠some (.array n e):=by
     cases d with
     | zero=>grind[ie]
     | succ d=>
      grind[ie]
    simp_all[Value.okWide,Cell.okWide,Cell.ok]
   have y:v.cells.toList=[v]:=by
    cases v<;>first|rfl|simp_all
   rw[y]at k;exact k.2 0 _ _ rfl rfl
theorem uT{B G:Nat}{d:Nat}{r:Reach}{base:Nat}:∀(g:List TypeId) (tys:List Ty) (vs:List Value) (c:List<|DataW X) (ps:List MemPlace),g.map (ie P d)=tys.map some->(∀ty ∈ tys,ty.shallow=true) ->
  DataW.TrodAll enc P w 0 (λ_=>true) true g vs c ps->(∀(j:Nat) t v,g[j]?=some t->vs[j]?=some v->Value.okWide P w r base t v)->(∀x ∈ c,Small B x)->∀{φ:Map} {H:Heap},HR φ G H w->G<=H.length ->
  ∃e H' b,HR e G H' w/\φ.le e/\Longer H H'/\nf B H' tys b/\LRel e b vs
 | [],tys,vs,c,ps,a,_,f,_,_,φ,H,k,_=>by
  obtain⟨rfl,rfl,rfl⟩:=trodAll_nil f;have:tys=[]:=by simp_all
  subst this;exact⟨φ,H,[],k,Map.le_refl φ,Longer.refl H,rfl,LRel.nil φ⟩
 | t::g,[],vs,c,ps,a,_,f,_,_,φ,H,k,_=>by simp at a
 | t::g,ty::tys,vs,c,ps,a,i,f,z,u,φ,H,k,y=>by
  obtain⟨v,vs,x,c,p,q,rfl,rfl,rfl,M,f⟩:=trodAll_cons f;simp at a;have⟨N,O,n,C,D,m,F,I⟩:=Fs a.1 (i ty (by simp)) M (z 0 t v rfl rfl) (u x (by simp)) k y;have⟨l,A,b,J,o,s,K,L⟩:=uT g tys vs c q a.2 (λty h=>i ty (by simp[h])) f (λj t v Q R=>z (j+1) t v (by simp_all) (by simp_all)) (λx h=>u x (by simp[h])) C<|Nat.le_trans y m.len;exact⟨l,A,n::b,J,Map.le_trans D o,m.trans s,⟨n,b,rfl,F.mono s,K⟩,LRel.cons (I.mono o) L⟩
theorem HQ{G:Nat}(e:G<=w.heap.size):HR (λi=>if i<G then some ⟨i,0,0⟩ else none) G (List.replicate G none) w:=by
 refine⟨λi c b=>?_,λi p a=>?_,λg d=>⟨0,by simp[d]⟩,λi p a=>?_⟩
 .rw[eR]at b
  rw[List.getElem?_replicate]at b;split at b<;>simp at b
 .split at a
  .simpa
  .simp at a
 .split at a
  .cases a;simp;omega
  .simp at a
theorem nB{W g:World}(i:laidOutB P=true)(a:∀p:MemPlace,p.block<W.heap.size->W.sameAt g p):∀(d:List TypeId) (vs:List Value) (c:List<|DataW X) (ps:List MemPlace),(∀t ∈ d,P.readableRec t=true/\t<P.types.size) ->
  DataW.TrodAll enc P W 0 (λ_=>true) true d vs c ps->DataW.TrodAll enc P g 0 (λb=>decide<|b<W.heap.size) true d vs c ps
 | [],vs,c,ps,_,h=>by
  obtain⟨rfl,rfl,rfl⟩:=trodAll_nil h;rfl
 | t::d,vs,c,ps,f,h=>by
  have e:=h.lt;obtain⟨v,vs,x,c,p,q,rfl,rfl,rfl,k,m⟩:=trodAll_cons h;exact⟨p,q,WideElems.Trod_stays i (f t (by simp)).1 (f t (by simp)).2 k (λy j=>a y<|e y (by simp[j])) λy j=>by simp_all,
   nB i a d vs c q (λt l=>f t (by simp[l])) m,rfl⟩
theorem v9{f:FuncId}{fn:Func}{s:ChangeSpec}{cp:FuncId->Option CF}(O:∀base n,RunOK P base P.globals.size<|run cp n){d:Nat}{tys:List Ty}{T:TypeId}
  (A:fn.params.toList.map (ie P d)=tys.map some) (R:tys.all Ty.shallow=true) (z:fn.resultTypes=#[T]) (K:P.underlying T=some .bool) (hl:laidOutB P=true)
  (r:fn.params.toList.all (λt=>P.readableRec t&&decide (t<P.types.size))=true) (k:s.vars=[]) (N:∀(X:Type) (a:List<|DataW X),a.length=tys.length->s.fn X a=⟨[.lit<|.bool true],a,[]⟩)
  {B:Nat} (S:∀(H:Heap) (vs:List Value),nf B H tys vs->Ev cp H.length f vs H λv _=>v=.bool true)
  (W:World) (hG:P.globals.size<=W.heap.size) (base:Nat) (args:Array Value) (a gs:List<|DataW X) (l:List MemPlace)
  (dS:∀(j:Nat) t v,fn.params[j]?=some t->args[j]?=some v->Value.okWide P W .any base t v)
  (V:DataW.Whole enc P fn.params.toList s.vars false W args.toList a gs l) (hB:∀x ∈ a,Small B x) :
  Calls P f args W λe D=>∃v,e=.returned v/\s.post enc P fn false true false false W args v D:=by
 have J:=V;obtain⟨p,q,hA,U,rfl,b0,c0⟩:=V;rw[k]at U;obtain⟨rfl,rfl⟩:=trodVars_none U;have m:DataW.TrodAll enc P W 0 (λ_=>true) true fn.params.toList args.toList a p:=hA;have⟨φ,H,F,b1,b2,b3,b4,b5⟩:=uT (B:=B) fn.params.toList tys args.toList a p A (List.all_eq_true.1 R) m (λj t v G h2=>dS j t v (by simpa using G) (by simpa using h2)) hB (HQ hG) (by simp);have L:=xG O b1.rel b5<|S H F b4;refine L.mono λe D ⟨v,cv,H',e0,hv,he,I,y⟩=>?_;subst hv;cases y;have g:∀b,b<W.heap.size->D.heap[b]?=W.heap[b]?:=λb hb=>I.keep b hb λi c p Y L=>absurd (Heap.get_lt L) byO;have u:∀p:MemPlace,p.block<W.heap.size->W.sameAt D p:=by
  intro p Z;cases p with
  | cell b o=>exact World.cell?_of_block (w:=W)<|g b Z
  | map b=>exact g b Z
 have M:a.length=tys.length:=by
  have G:∀(C:List TypeId) (vs:List Value) (a:List<|DataW X) (ps:List MemPlace),DataW.TrodAll enc P W 0 (λ_=>true) true C vs a ps->a.length=C.length:=by
   intro C
   induction C with
   | nil=>intro vs a ps h;obtain⟨rfl,rfl,rfl⟩:=trodAll_nil h;rfl
   | cons t C ih=>intro vs a ps h;obtain⟨v,vs,x,a,p,q,rfl,rfl,rfl,h0,hx⟩:=trodAll_cons h;simp[ih _ _ _ hx]
  have:=congrArg List.length A;simp at this;rw[G _ _ _ _ m];simpa using this
 have Q:s.fn X (a++[])=⟨[.lit<|.bool true],a,[]⟩:=by rw[List.append_nil];exact N X a M
 refine⟨_,he,a,[],p++[],[],p,[],J,?_,?_,?_,?_,λh=>by cases h⟩
 .rw[Q,z]
  exact trodAll_mk1<|shut_bool K true
 .rw[Q]
  exact nB hl u _ _ _ _ (λt ht=>by simpa using List.all_eq_true.1 r t ht) m
 .rw[Q,k];rfl
 .refine⟨I.os,I.out,λi Y=>?_⟩
  rw[g i Y];split<;>simp_all
end
def frz:Nat->List Value
 | n+1=>undef::frz n
 | 0=>[]
def frm:List Value->Nat->List Value
 | a::l,n=>a::frm l n
 | [],n=>frz n
theorem F0:(n:Nat)->frz n=List.replicate n undef
 | n+1=>by rw[frz,F0 n];rfl
 | 0=>rfl
theorem FZ:(l:List Value)->(n:Nat)->frm l n=l++List.replicate n undef
 | a::l,n=>by rw[frm,FZ l n];rfl
 | [],n=>F0 n
theorem stG{cp:FuncId->Option CF}{lo:Nat}{f:FuncId}{e d:Nat}{r:List E}{b:Stm}{args:List Value}{H:Heap}{R:Value->Heap->Prop}(a:cp f=some ⟨e,d+e,r,b,.plain⟩)(c:args.length=e)(h:wpS cp lo b (jk ⟨0,0,r,.skip,.plain⟩ R) (frm args d) H):Ev cp lo f args H R:=
 FN a rfl c (by rw[Nat.add_sub_cancel,<-FZ];exact h)
theorem ncM{P:Prop}(h:P:=by first|rfl|(simp only[ap₀,Int.natCast_one];rfl)|simp only[ap₀,Int.natCast_one]):P:=h
structure Hdn (P:Prop):Prop where
 out:P
section control
variable {cp:FuncId->Option CF}{lo:Nat}
def wZ(cp:FuncId->Option CF)(lo:Nat)(b:Stm)(Q:bI):bI:=λex S' H'=>match ex with | .normal=>wpS cp lo b Q S' H'|ex=>Q ex S' H'
def iw(i:Nat)(Q:bI):bI:=λex S' H'=>match ex with | .exit j=>if j=i then Q .normal S' H' else Q (.exit j) S' H'|ex=>Q ex S' H'
theorem lI{a b:Stm}{Q:bI}{S:List Value}{H:Heap}:wpS cp lo (.seq a b) Q S H=wpS cp lo a (wZ cp lo b Q) S H:=rfl
theorem EC{i:Nat}{b:Stm}{Q:bI}{S:List Value}{H:Heap}:wpS cp lo (.block i b) Q S H=wpS cp lo b (iw i Q) S H:=rfl
theorem Av{Q:bI}{S:List Value}{H:Heap}:wpS cp lo .skip Q S H=Q .normal S H:=rfl
theorem IA{i:Nat}{Q:bI}{S:List Value}{H:Heap}:wpS cp lo (.exit i) Q S H=Q (.exit i) S H:=rfl
theorem Mw{Q:bI}{S:List Value}{H:Heap}:wpS cp lo .ret Q S H=Q .ret S H:=rfl
theorem HD{b:Stm}{Q:bI}{S:List Value}{H:Heap}:wZ cp lo b Q .normal S H=wpS cp lo b Q S H:=rfl
theorem PX{b:Stm}{Q:bI}{i:Nat}{S:List Value}{H:Heap}:wZ cp lo b Q (.exit i) S H=Q (.exit i) S H:=rfl
theorem PY{b:Stm}{Q:bI}{S:List Value}{H:Heap}:wZ cp lo b Q .ret S H=Q .ret S H:=rfl
theorem EN{i:Nat}{Q:bI}{S:List Value}{H:Heap}:iw i Q .normal S H=Q .normal S H:=rfl
theorem EO{i:Nat}{Q:bI}{S:List Value}{H:Heap}:iw i Q .ret S H=Q .ret S H:=rfl
theorem nv{i j:Nat}{Q:bI}{S:List Value}{H:Heap}:iw i Q (.exit j) S H=if j=i then Q .normal S H else Q (.exit j) S H:=rfl
theorem nj{l:List<|Nat×E}{a:List E}{Q:bI}{S:List Value}{H:Heap}{vs:List<|Nat×Value}(h:evSets S H l=some vs)(d:evChk S H a=true){b:List Value}(c:setAll S vs=b)(k:Q .normal b H):wpS cp lo (.sets l a) Q S H:=by grind[wpS]
theorem xA{l:List<|Nat×E}{b:List E}{dst:Option Nat}{o:HOp}{a:E}{Q:bI}{S:List Value}{H:Heap}{vs:List<|Nat×Value}{xs:List Value}(h:evSets S H l=some vs)(d:evChk S H b=true)(c:ev S H a=some xs)
  (k:wpH cp lo o xs H λv H'=>Q .normal (setD (setAll S vs) dst v) H'):wpS cp lo (.hv l b [] dst o a) Q S H:=by grind[wpS,holds]
theorem eF{f:FuncId}{first cap:Array Value}{args:List Value}{H:Heap}{R a:Value->Heap->Prop}(h:Ev cp lo f (first.toList++args++cap.toList) H a)(k:∀v H',a v H'->R v H'):wpH cp lo .callC (.func (.func f) first cap::args) H R:=
 h.mono k
theorem aU{l:List<|Nat×E}{b:List E}{c:PC}{dst:Option Nat}{o:HOp}{a:E}{Q:bI}{S:List Value}{H:Heap}{vs:List<|Nat×Value}{t:Bool}(h:evSets S H l=some vs)(d:evChk S H b=true)(e:holds S H c=some t)
  (f:t=true->∃xs,ev S H a=some xs/\wpH cp lo o xs H λv H'=>Q .normal (setD (setAll S vs) dst v) H') (g:t=false->Q .normal (setD (setAll S vs) dst undef) H):wpS cp lo (.hv l b c dst o a) Q S H:=by grind[wpS]
theorem iP{c:E}{a b:Stm}{Q:bI}{S:List Value}{H:Heap}{t:Bool}(h:ev1 S H c=some (.bool t))(d:t=true->wpS cp lo a Q S H)(e:t=false->wpS cp lo b Q S H):wpS cp lo (.cond c a b) Q S H:=by grind[wpS]
theorem At{a b:E}{Q:bI}{S:List Value}{H:Heap}{x y:Value}(d:ev1 S H a=some x)(e:ev1 S H b=some y)(c:ae x=none\/ae x≠ae y)(k:Q .normal S H):wpS cp lo (.dist a b) Q S H:=by grind[wpS]
def Bg(J:Nat->List Value->Heap->Prop)(m:Nat)(Q:bI):bI:=λex S' H'=>match ex with | .normal=>∃m',m'<m/\J m' S' H'|ex=>Q ex S' H'
theorem aY{b:Stm}{Q:bI}{S:List Value}{H:Heap}(J:Nat->List Value->Heap->Prop)(m:Nat)(a:J m S H)(c:∀m S H,J m S H->wpS cp lo b (Bg J m Q) S H):wpS cp lo (.loop b) Q S H:=⟨J,m,a,c⟩
theorem ak{J:Nat->List Value->Heap->Prop}{m:Nat}{Q:bI}{S:List Value}{H:Heap}:Bg J m Q .normal S H=∃a,a<m/\J a S H:=rfl
theorem JB{J:Nat->List Value->Heap->Prop}{m i:Nat}{Q:bI}{S:List Value}{H:Heap}:Bg J m Q (.exit i) S H=Q (.exit i) S H:=rfl
theorem JC{J:Nat->List Value->Heap->Prop}{m:Nat}{Q:bI}{S:List Value}{H:Heap}:Bg J m Q .ret S H=Q .ret S H:=rfl
theorem jl{cf:CF}{R:Value->Heap->Prop}{S:List Value}{H:Heap}{vs:List Value}(h:evList S H cf.res=some vs)(k:R (aM vs) H):jk cf R .ret S H:=by grind[jk]
theorem dR{cf:CF}{R:Value->Heap->Prop}{S:List Value}{H:Heap}{vs:List Value}(h:evList S H cf.res=some vs)(k:R (aM vs) H):jk cf R .normal S H:=by grind[jk]
theorem wpS.mono{st:Stm}{Q w:bI}{S:List Value}{H:Heap}(h:wpS cp lo st Q S H)(d:∀k S H,Q k S H->w k S H):wpS cp lo st w S H:=by
 have f:∀(o:HOp) (vs:List Value) (H:Heap) (R q:Value->Heap->Prop),(∀v H,R v H->q v H)->wpH cp lo o vs H R->wpH cp lo o vs H q:=by
  intro o vs H R q u h;cases o
  case call F=>
   simp[wpH]at h ⊢;split at h
   .exact h.mono u
   .exact h
  case callC=>
   simp[wpH]at h ⊢;split at h
   .exact h.mono u
   .exact h
  all_goals
   simp[wpH]at h ⊢;split at h
   .exact u _ _ h
   .exact h.elim
 have g:∀(o:HOp) (vs:List Value) (H:Heap) (R q:Value->Heap->Prop),(∀v H,R v H->q v H)->wpP cp lo o vs H R->wpP cp lo o vs H q:=by
  intro o vs H R q u h;unfold wpP at h ⊢;split at h
  .split at h
   .exact h.mono u
   .exact h
  .split at h
   .exact u _ _ h
   .exact h
  .exact h.elim
 revert h d
 induction st generalizing Q w S H with
 | skip=>intro h d;exact d _ _ _ h
 | sets l x=>
  intro h d;simp[wpS]at h ⊢;split at h
  .exact⟨h.1,d _ _ _ h.2⟩
  .exact h
 | hv l x I dst o a=>
  intro h d;simp[wpS]at h ⊢;split at h
  .refine⟨h.1,?_⟩
   have t:=h.2;split at t
   .split at t
    .exact t.imp (f _ _ _ _ _ λv H h=>d _ _ _ h)<|g _ _ _ _ _ λv H h=>d _ _ _ h
    .exact t
   .exact d _ _ _ t
   .exact t
  .exact h
 | dist a b=>
  intro h d;simp[wpS]at h ⊢;split at h
  .exact⟨h.1,d _ _ _ h.2⟩
  .exact h
 | seq a b n p=>
  intro h d;refine n h λk S H h=>?_;cases k with
  | normal=>exact p h d
  | exit i=>exact d _ _ _ h
  | ret=>exact d _ _ _ h
 | cond c a b n p=>
  intro h d;simp[wpS]at h ⊢;split at h
  .exact⟨λe=>n (h.1 e) d,λe=>p (h.2 e) d⟩
  .exact h
 | block i b B=>
  intro h d;refine B h λk S H h=>?_;cases k with
  | normal=>exact d _ _ _ h
  | exit j=>
   simp only at h ⊢;split at h
   next e=>rw[if_pos e];exact d _ _ _ h
   next e=>rw[if_neg e];exact d _ _ _ h
  | ret=>exact d _ _ _ h
 | loop b B=>
  intro h d;have⟨J,m,y,A⟩:=h;refine⟨J,m,y,λm S H z=>B (A m S H z) λk S H h=>?_⟩;cases k with
  | normal=>exact h
  | exit j=>exact d _ _ _ h
  | ret=>exact d _ _ _ h
 | exit i=>intro h d;exact d _ _ _ h
 | ret=>intro h d;exact d _ _ _ h
 | alt l s r D C=>
  intro h d;simp[wpS]at h ⊢;split at h
  .exact⟨λe=>D (h.1 e) d,λe=>C (h.2 e) d⟩
  .exact h
 | scope b G p n=>
  intro h d;have⟨J,y,A⟩:=h;refine⟨J,p y λk S H h=>?_,λm l S H z=>n (A m l S H z) λk S H h=>?_⟩
  .cases k with
   | normal=>exact d _ _ _ h
   | ret=>exact d _ _ _ h
   | exit j=>
    simp only at h ⊢;split at h
    next e=>rw[if_pos e];exact h
    next e=>rw[if_neg e];exact d _ _ _ h
  .cases k with
   | normal=>exact d _ _ _ h
   | ret=>exact d _ _ _ h
   | exit j=>
    simp only at h ⊢;split at h
    next e=>rw[if_pos e];exact h
    next e=>rw[if_neg e];exact d _ _ _ h
theorem aC{f:FuncId}{first cap:Array Value}{args:List Value}{H:Heap}{R a:Value->Heap->Prop}(h:Ev cp lo f (first.toList++args++cap.toList) H a)(k:∀v H',a v H'->R v H'):wpH cp lo (.call false) (.func (.func f) first cap::args) H R:=
 h.mono k
theorem bS{f:FuncId}{first cap:Array Value}{args:List Value}{H:Heap}{R a:Value->Heap->Prop}(h:Ev cp H.length f (first.toList++args++cap.toList) H a)(k:∀v H',a v H'->R v H'):wpH cp lo (.call true) (.func (.func f) first cap::args) H R:=
 h.mono k
end control
def Ext(H H':Heap):Prop:=H.length<=H'.length/\∀i,i<H.length->H'.get i=H.get i
theorem Ext.refl(H:Heap):Ext H H:=⟨Nat.le_refl _,λ_ _=>rfl⟩
theorem Ext.trans{A B C:Heap}(h:Ext A B)(k:Ext B C):Ext A C:=⟨Nat.le_trans h.1 k.1,λi a=>(k.2 i<|bd₀ a h.1).trans<|h.2 i a⟩
theorem xr{H:Heap}{x:Option<|List Value}{i:Nat}(h:i<H.length):Heap.get (H++[x]) i=H.get i:=by grind[Heap.get]
theorem aG{H:Heap}{i:Nat}{c:List Value}(h:i<H.length):Heap.get (H.set i<|some c) i=some c:=by grind[eR]
theorem aI{H:Heap}{i j:Nat}{x:Option<|List Value}(h:i≠j):Heap.get (H.set i x) j=H.get j:=by grind[Heap.get]
theorem Ext.push(H:Heap)(x:Option<|List Value):Ext H<|H++[x]:=⟨by simp,λ_ h=>xr h⟩
theorem Ext.set{H H':Heap}(h:Ext H H'){i:Nat}{x:Option<|List Value}(b:H.length<=i):Ext H<|H'.set i x:=⟨by simpa using h.1,λj a=>by rw[aI byO];exact h.2 j a⟩
theorem Ext.get{A B:Heap}(h:Ext A B){i:Nat}{c:List Value}(a:A.get i=some c):B.get i=some c:=(h.2 i<|Heap.get_lt a).trans a
theorem aF{H:Heap}{c:List Value}{L:Heap}:Heap.get (H++(some c::L)) H.length=some c:=by grind[eR]
theorem bC{H L:Heap}{k:Nat}:Heap.get (H++L) (H.length+k)=Heap.get L k:=by grind[Heap.get]
theorem aV{H L:Heap}{i:Nat}(h:i<H.length):Heap.get (H++L) i=H.get i:=by grind[Heap.get]
theorem Cv{c:List Value}{L:Heap}:Heap.get (some c::L) 0=some c:=rfl
theorem Cw{x:Option<|List Value}{L:Heap}{k:Nat}:Heap.get (x::L) (k+1)=Heap.get L k:=rfl
theorem HE{H L:Heap}{x y:Option<|List Value}:(H++(x::L)).set H.length y=H++(y::L):=by simp
theorem HG{H L:Heap}{k:Nat}{y:Option<|List Value}:(H++L).set (H.length+k) y=H++L.set k y:=by simp_all
theorem Ac{H L:Heap}{i:Nat}{y:Option<|List Value}(h:i<H.length):(H++L).set i y=H.set i y++L:=by simp_all
theorem Ext.app(H L:Heap):Ext H<|H++L:=⟨by simp,λ_ h=>aV h⟩
theorem Ext.of_app{A B L:Heap}(h:Ext (A++L) B):Ext A B:=(Ext.app A L).trans h
theorem sx{k:Mv}{v c:Value}(h:bN v=true)(s:Sh k v c):c=v:=by
 cases s<;>first|rfl|simp[bN]at h
 rename_i f a b a' d l m n o;have e:a=#[]:=by simpa using h.1
 have g:b=#[]:=by simpa using h.2
 subst e g;have i:a'=#[]:=by simpa using l.symm
 have j:d=#[]:=by simpa using m.symm
 subst i j;rfl
theorem uV{k:Mv}:∀{c c':List Value},c.all bN=true->LSh k c c'->c'=c
 | [],c',_,s=>s.of_nil
 | x::c,c',h,s=>by
  simp only[List.all_cons,ac₀]at h;obtain⟨y,r,rfl,a,b⟩:=s.of_cons;rw[sx h.1 a,uV h.2 b]
theorem nL{H H':Heap}{a:Heap}(h:HSh (mv0 H.length) a H')(c:∀i,i<H.length->H'[i]?=H[i]?):Ext H H':=⟨by have:=h.len;simp[mv0]at this;omega,λi b=>by unfold Heap.get;rw[c i b]⟩
theorem kz{cp:FuncId->Option CF}(p:∀f cf,cp f=some cf->aL cf=true){f:FuncId}{n i len cap:Nat}{sp:Option Nat}{c:List Value}{args:List Value}(l:args.all fX=true)(h:((run cp n).ret 0 f args []).map (λr=>(r.1,r.2.get i))=some (.slice (some ⟨i,0,sp⟩) len cap,some c))(m:c.all bN=true)
  {lo:Nat} {H:Heap} (d:lo<=H.length):Ev cp lo f args H λv H'=>∃j,H.length<=j/\v=.slice (some ⟨j,0,sp⟩) len cap/\H'.get j=some c/\Ext H H':=by have⟨⟨v,t⟩,q,g⟩:=Option.map_eq_some_iff.1 h;simp[ad₀]at g;obtain⟨rfl,o⟩:=g;refine oI p l n (nZ q) d λu H' s e a=>?_;cases s;have⟨c',b,k⟩:=e.get i c o;rw[uV m k]at b;rw[MC]at b ⊢;exact⟨_,byO,rfl,b,nL e a⟩
theorem iu{cp:FuncId->Option CF}(i:∀f cf,cp f=some cf->aL cf=true){f:FuncId}{n:Nat}{args:List Value}{v:Value}(g:args.all fX=true)(h:((run cp n).ret 0 f args []).map (·.1)=some v)(k:bN v=true)
  {lo:Nat} {H:Heap} (b:lo<=H.length):Ev cp lo f args H λd H'=>d=v/\Ext H H':=by obtain⟨⟨v,l⟩,j,rfl⟩:=Option.map_eq_some_iff.1 h;refine oI i g n (nZ j) b λd H' c e a=>⟨sx k c,nL e a⟩
def Heap.at(H:Heap)(b o:Nat):Option Value:=match H.get b with|some c=>c[o]?|none=>none
theorem cells_get{H:Heap}{b:Nat}{c:List Value}(h:H.get b=some c){o n:Nat}(a:o+n<=c.length):H.cells b o n=some ((c.drop o).take n):=by grind[Heap.cells]
theorem wN{c:List Value}{o:Nat}{v:Value}(h:o<c.length):putCells c o [v]=c.set o v:=by grind[putCells,List.set_eq_take_append_cons_drop]
section light
variable {H:Heap}
theorem R8(x:Value):aJ .mv [x] H=some x:=rfl
theorem Nr(k:IntKind)(a b:Int):aJ (.bin .add) [.int k a,.int k b] H=some (.int k<|k.wrap<|a+b):=by grind[aJ,bD,bQ]
theorem OR(k:IntKind)(a b:Int):aJ (.bin .sub) [.int k a,.int k b] H=some (.int k<|k.wrap<|a-b):=by grind[aJ,bD,bQ]
theorem OG(k:IntKind)(a b:Int):aJ (.bin .mul) [.int k a,.int k b] H=some (.int k<|k.wrap<|a*b):=by grind[aJ,bD,bQ]
theorem OK{k:IntKind}{a b:Int}(h:b≠0):aJ (.bin .quo) [.int k a,.int k b] H=some (.int k<|k.wrap<|a.tdiv b):=by grind[aJ,bD,bQ]
theorem OM{k:IntKind}{a b:Int}(h:b≠0):aJ (.bin .rem) [.int k a,.int k b] H=some (.int k<|a.tmod b):=by grind[aJ,bD,bQ]
theorem Ns(k:IntKind)(a b:Int):aJ (.bin .and) [.int k a,.int k b] H=some (.int k<|k.wrap (BitVec.ofInt k.bits a &&& BitVec.ofInt k.bits b).toNat):=by grind[aJ,bD,bQ]
theorem R9(k:IntKind)(a b:Int):aJ (.bin .or) [.int k a,.int k b] H=some (.int k<|k.wrap (BitVec.ofInt k.bits a ||| BitVec.ofInt k.bits b).toNat):=by grind[aJ,bD,bQ]
theorem OS(k:IntKind)(a b:Int):aJ (.bin .xor) [.int k a,.int k b] H=some (.int k<|k.wrap (BitVec.ofInt k.bits a ^^^ BitVec.ofInt k.bits b).toNat):=by grind[aJ,bD,bQ]
theorem Nw(k:IntKind)(a b:Int):aJ (.bin .eql) [.int k a,.int k b] H=some (.bool<|decide<|a=b):=by grind[aJ,bD,bQ]
theorem OI(k:IntKind)(a b:Int):aJ (.bin .neq) [.int k a,.int k b] H=some (.bool<|decide<|a≠b):=by grind[aJ,bD,bQ]
theorem OD(k:IntKind)(a b:Int):aJ (.bin .lss) [.int k a,.int k b] H=some (.bool<|decide<|a<b):=by grind[aJ,bD,bQ]
theorem OC(k:IntKind)(a b:Int):aJ (.bin .leq) [.int k a,.int k b] H=some (.bool<|decide<|a<=b):=by grind[aJ,bD,bQ]
theorem Nz(k:IntKind)(a b:Int):aJ (.bin .gtr) [.int k a,.int k b] H=some (.bool<|decide<|b<a):=by grind[aJ,bD,bQ]
theorem Ny(k:IntKind)(a b:Int):aJ (.bin .geq) [.int k a,.int k b] H=some (.bool<|decide<|b<=a):=by grind[aJ,bD,bQ]
theorem ON{k c:IntKind}{a b:Int}(h:0<=b):aJ (.bin .shl) [.int k a,.int c b] H=some (.int k<|k.wrap<|a*2^(min b.toNat k.bits)):=by grind[aJ,bD,gz]
theorem OO{k c:IntKind}{a b:Int}(h:0<=b):aJ (.bin .shr) [.int k a,.int c b] H=some (.int k<|a.fdiv<|2^(min b.toNat k.bits)):=by grind[aJ,bD,gz]
theorem Nv(neg a b:Bool):aJ (.eqB neg) [.bool a,.bool b] H=some (.bool<|(a==b) != neg):=rfl
theorem Nu(neg:Bool)(a:List Nat)(xs ys:Array Value):aJ (.eqA neg a) [.agg xs,.agg ys] H=(ag a xs.toList ys.toList).map λb=>.bool<|b != neg:=rfl
theorem JG(neg:Bool)(l c l' c':Nat):aJ (.eqN neg) [.slice none l c,.slice none l' c'] H=some (.bool<|true != neg):=rfl
theorem JH(neg:Bool)(a:Addr)(l c l' c':Nat):aJ (.eqN neg) [.slice (some a) l c,.slice none l' c'] H=some (.bool<|false != neg):=rfl
theorem OJ(b:Bool):aJ (.un .not) [.bool b] H=some (.bool !b):=rfl
theorem OH(k:IntKind)(n:Int):aJ (.un .neg) [.int k n] H=some (.int k<|k.wrap<|0-n):=rfl
theorem Nt(k a:IntKind)(n:Int):aJ (.cvt k) [.int a n] H=some (.int k<|k.wrap n):=rfl
theorem JF(s:ByteArray):aJ .cvtS [.string s] H=some (.string s):=rfl
theorem DK(a:Addr):aJ .nilChk [.pointer<|some a] H=some (.pointer<|some a):=rfl
theorem AG(f:FuncId)(x y:Array Value):aJ .nilChk [.func (.func f) x y] H=some (.func (.func f) x y):=rfl
theorem Fv(a i o:Nat):aJ (.fAddr a) [.pointer<|some ⟨i,o,none⟩] H=some (.pointer<|some ⟨i,o+a,none⟩):=rfl
theorem JI(a n:Nat)(cs:Array Value):aJ (.fld a n false) [.agg cs] H=cs[a]?:=rfl
theorem JJ{a n:Nat}{cs:Array Value}(h:a+n<=cs.size):aJ (.fld a n true) [.agg cs] H=some (.agg<|cs.extract a<|a+n):=by grind[aJ]
theorem lV{sz b o l c:Nat}{sp:Option Nat}{k:IntKind}{i:Int}(a:0<=i)(d:i<l):aJ (.iAddr sz) [.slice (some ⟨b,o,sp⟩) l c,.int k i] H=some (.pointer<|some ⟨b,o+i.toNat*sz,none⟩):=by grind[aJ]
theorem DJ{len sz b o:Nat}{k:IntKind}{i:Int}(a:0<=i)(c:i<len):aJ (.iAddrA len sz) [.pointer<|some ⟨b,o,none⟩,.int k i] H=some (.pointer<|some ⟨b,o+i.toNat*sz,none⟩):=by grind[aJ]
theorem JK{len sz:Nat}{cs:Array Value}{k:IntKind}{i:Int}(a:0<=i)(b:i<len):aJ (.idx len sz false) [.agg cs,.int k i] H=cs[i.toNat*sz]?:=by grind[aJ]
theorem JL{len sz:Nat}{cs:Array Value}{k:IntKind}{i:Int}(a:0<=i)(b:i<len)(c:i.toNat*sz+sz<=cs.size):aJ (.idx len sz true) [.agg cs,.int k i] H=some (.agg<|cs.extract (i.toNat*sz)<|i.toNat*sz+sz):=by grind[aJ]
theorem OA(n b o:Nat):aJ (.ld n false) [.pointer<|some ⟨b,o,none⟩] H=H.at b o:=by grind[aJ,Heap.cells,Heap.at,List.head?_take,List.head?_drop]
theorem JN(n b o:Nat):aJ (.ld n true) [.pointer<|some ⟨b,o,none⟩] H=match H.get b with|some c=>(if o+n<=c.length then some (.agg ((c.drop o).take n).toArray) else none)|none=>none:=by grind[aJ,Heap.cells]
theorem OB(a:Option Addr)(n c:Nat):aJ .len [.slice a n c] H=some (.int .i64 n):=rfl
theorem JP(s:ByteArray):aJ .lenS [.string s] H=some (.int .i64 s.size):=rfl
theorem JO(n:Nat)(x:Value):aJ (.lenC n) [x] H=some (.int .i64 n):=rfl
theorem Nx(i:Nat)(vs:Array Value):aJ (.ext i) [.tuple vs] H=vs[i]?:=rfl
theorem yJ(b:List Value)(a:List<|Nat×Nat)(vs:List Value):aJ (.build b a) vs H=(buildL b a vs).map λl=>.agg l.toArray:=by simp[aJ]
theorem OE(f:FuncId)(n:Nat)(vs:List Value):aJ (.mkF f n) vs H=some (.func (.func f) (vs.take n).toArray (vs.drop n).toArray):=by simp[aJ]
theorem OF(t:TypeId)(x:Value):aJ (.mkI t) [x] H=some (.iface t x):=rfl
theorem Ra(c:Bool)(a b:Value):aJ .pk [.bool c,a,b] H=some (if c then a else b):=rfl
theorem Fx(k c:IntKind)(a b:Int):aJ (.minmax false) [.int k a,.int c b] H=some (.int k (if b<a then b else a)):=by rfl
theorem Fw(k c:IntKind)(a b:Int):aJ (.minmax true) [.int k a,.int c b] H=some (.int k (if a<b then b else a)):=by rfl
end light
theorem kM{a:Int}(b:-9223372036854775808<=a)(c:a<=9223372036854775807):IntKind.i64.wrap a=a:=by grind[IntKind.wrap,IntKind.bits,IntKind.signed]
theorem zF{a:Int}(b:0<=a)(c:a<=18446744073709551615):IntKind.u64.wrap a=a:=by grind[IntKind.wrap,IntKind.bits,IntKind.signed]
theorem CZ{a:Int}(b:0<=a)(c:a<=255):IntKind.u8.wrap a=a:=by grind[IntKind.wrap,IntKind.bits,IntKind.signed]
section exprs
variable {S:List Value}{H:Heap}
def uc(c a b:Option<|List Value):Option<|List Value:=match c with|some [.bool true]=>a|some [.bool false]=>b|_=>none
theorem RV(c a b:E):ev S H (.pick c a b)=uc (ev S H c) (ev S H a) (ev S H b):=rfl
theorem Jm(a b:Option<|List Value):uc (some [.bool true]) a b=a:=rfl
theorem Jk(a b:Option<|List Value):uc (some [.bool false]) a b=b:=rfl
theorem DZ(t u:Bool):uc (some [.bool t]) (some [.bool u]) (some [.bool false])=some [.bool<|t&&u]:=by cases t<;>rfl
theorem G7(t u:Bool):uc (some [.bool t]) (some [.bool true]) (some [.bool u])=some [.bool<|t || u]:=by cases t<;>rfl
theorem Jl(t:Bool)(k:IntKind)(x y:Int):uc (some [.bool t]) (some [.int k x]) (some [.int k y])=some [.int k (if t=true then x else y)]:=by cases t<;>rfl
theorem tP{p:Prop}[Decidable p](x y:Value):(if p then some [x] else some [y])=some [if p then x else y]:=by split<;>rfl
theorem Fm{p:Prop}[Decidable p](x y:Bool):(if p then Value.bool x else Value.bool y)=Value.bool (if p then x else y):=by split<;>rfl
theorem Ix{p:Prop}[Decidable p](k:IntKind)(x y:Int):(if p then Value.int k x else Value.int k y)=Value.int k (if p then x else y):=by split<;>rfl
end exprs
theorem xB{cp:FuncId->Option CF}{lo:Nat}{l:List<|Nat×E}{c:List E}{dst:Option Nat}{o:HOp}{a:E}{Q:bI}{S:List Value}{H:Heap}{vs:List<|Nat×Value}{xs:List Value}{v:Value}{H':Heap}(b:o.isCall=false)(h:evSets S H l=some vs)(i:evChk S H c=true)(g:ev S H a=some xs)
  (j:cK lo o xs H=some (v,H')) {e:List Value} (f:setD (setAll S vs) dst v=e) (k:Q .normal e H'):wpS cp lo (.hv l c [] dst o a) Q S H:=by
 subst f;apply xA h i g;cases o
 case call d=>simp[HOp.isCall]at b
 case callC=>simp[HOp.isCall]at b
 all_goals (simp[wpH];rw[j];exact k)
section heavy
variable {lo:Nat}{H:Heap}
theorem Fb(z:List Value):cK lo (.alloc z) [] H=some (.pointer<|some ⟨H.length,0,none⟩,H++[some z]):=rfl
theorem Nh(v:Value):cK lo .box [v] H=some (.pointer<|some ⟨H.length,0,none⟩,H++[some v.cells.toList]):=rfl
theorem If{z:List Value}{a b:IntKind}{l c:Int}(h:0<=l/\l<=c/\c<=4294967296):cK lo (.mkSl z) [.int a l,.int b c] H=some (.slice (some ⟨H.length,0,none⟩) l.toNat c.toNat,H++[some<|bH z c.toNat]):=by grind[br,cK,hsem]
theorem Fc(z:List Value)(len:Nat)(a:List Nat)(vs:List Value):cK lo (.bSl z len a) vs H=(buildL (bH z len) (a.map λi=>(i*z.length,z.length)) vs).map λl=>(.slice (some ⟨H.length,0,none⟩) len len,H++[some l]):=by rfl
theorem Lz{n b o:Nat}{v:Value}(h:lo<=b):cK lo (.st n) [.pointer<|some ⟨b,o,none⟩,v] H=if v.cells.size=n/\oneCells v.cells.toList=true then(match H.get b with|some c=>(if o+v.cells.toList.length<=c.length then some (undef,H.set b<|some<|putCells c o v.cells.toList) else none)|none=>none) else none:=by grind[cK,hsem,Heap.put]
theorem sA{b o:Nat}{v:Value}(h:lo<=b)(d:v.cells=#[v])(a:v.oneCell'=true):cK lo (.st 1) [.pointer<|some ⟨b,o,none⟩,v] H=(match H.get b with|some c=>(if o<c.length then some (undef,H.set b<|some<|c.set o v) else none)|none=>none):=by grind[Lz,oneCells,wN]
end heavy
section control
variable {cp:FuncId->Option CF}{lo:Nat}
def OT(M:List Value->Heap->Prop):bI:=λex S H=>match ex with | .normal=>M S H|_=>False
theorem OU{M:List Value->Heap->Prop}{S:List Value}{H:Heap}:OT M .normal S H=M S H:=rfl
theorem eG{a b:Stm}{Q:bI}{S:List Value}{H:Heap}(M:List Value->Heap->Prop)(e:wpS cp lo a (OT M) S H)(f:∀c H',M c H'->wpS cp lo b Q c H'):wpS cp lo a (wZ cp lo b Q) S H:=
 e.mono λd S H h=>by
  cases d with
  | normal=>exact f S H h
  | exit i=>exact h.elim
  | ret=>exact h.elim
theorem Au{a b:Stm}{i:Nat}{Q:bI}{S:List Value}{H:Heap}(M:List Value->Heap->Prop)(g:wpS cp lo a (iw i<|OT M) S H)(d:∀c H',M c H'->wpS cp lo b Q c H'):wpS cp lo a (iw i<|wZ cp lo b Q) S H:=
 g.mono λf S H h=>by
  cases f with
  | normal=>exact d S H h
  | exit j=>
   simp[nv]at h ⊢;split at h
   next e=>rw[if_pos e];exact d S H h
   .exact h.elim
  | ret=>exact h.elim
def DN(M:List Value->Heap->Prop)(Q:bI):bI:=λex S H=>match ex with | .normal=>M S H|ex=>Q ex S H
theorem OW{M:List Value->Heap->Prop}{Q:bI}{S:List Value}{H:Heap}:DN M Q .normal S H=M S H:=rfl
theorem OV{M:List Value->Heap->Prop}{Q:bI}{i:Nat}{S:List Value}{H:Heap}:DN M Q (.exit i) S H=Q (.exit i) S H:=rfl
theorem OX{M:List Value->Heap->Prop}{Q:bI}{S:List Value}{H:Heap}:DN M Q .ret S H=Q .ret S H:=rfl
theorem ba{a b:Stm}{Q:bI}{S:List Value}{H:Heap}(M:List Value->Heap->Prop)(e:wpS cp lo a (DN M Q) S H)(f:∀c H',M c H'->wpS cp lo b Q c H'):wpS cp lo a (wZ cp lo b Q) S H:=
 e.mono λd S H h=>by
  cases d with
  | normal=>exact f S H h
  | exit i=>exact h
  | ret=>exact h
theorem c8{a b:Stm}{i:Nat}{Q:bI}{S:List Value}{H:Heap}(M:List Value->Heap->Prop)(g:wpS cp lo a (iw i<|DN M Q) S H)(d:∀c H',M c H'->wpS cp lo b Q c H'):wpS cp lo a (iw i<|wZ cp lo b Q) S H:=
 g.mono λf S H h=>by
  cases f with
  | normal=>exact d S H h
  | exit j=>
   simp[nv]at h ⊢;split at h
   next e=>rw[if_pos e];exact d S H h
   next e=>rw[if_neg e];exact h
  | ret=>exact h
end control
def aW(l:List Int):List Value:=l.map<|.int .i64
theorem eE(l:List Int):(aW l).length=l.length:=by simp[aW]
theorem Is{l:List Int}{i:Nat}(h:i<l.length):(aW l)[i]?=some (.int .i64<|l.getD i 0):=by grind[aW]
theorem Fi(l:List Int)(i:Nat)(v:Int):(aW l).set i (.int .i64 v)=aW (l.set i v):=by simp[aW]
theorem jE(l m:List Int):aW (l++m)=aW l++aW m:=by simp[aW]
theorem DA(l:List Int)(n:Nat):(aW l).take n=aW (l.take n):=by simp[aW]
theorem uQ(l:List Int)(n:Nat):(aW l).drop n=aW (l.drop n):=by simp[aW]
theorem pO(l:List Int):oneCells (aW l)=true:=by grind[aW,oneCells,Value.oneCell']
theorem Dp(n:Nat):bH [.int .i64 0] n=aW (List.replicate n 0):=by simp_all[bH,aW]
def et(l:List Bool):List Value:=l.map .bool
theorem th(l:List Bool):(et l).length=l.length:=by simp[et]
theorem EP{l:List Bool}{i:Nat}(h:i<l.length):(et l)[i]?=some (.bool<|l.getD i false):=by grind[et]
theorem C9(l:List Bool)(i:Nat)(v:Bool):(et l).set i (.bool v)=et (l.set i v):=by simp[et]
theorem C8(l m:List Bool):et (l++m)=et l++et m:=by simp[et]
theorem Ap(n:Nat):bH [.bool false] n=et (List.replicate n false):=by simp_all[bH,et]
theorem wG:oneCells []=true:=rfl
theorem tS(v:Value)(l:List Value):oneCells (v::l)=(v.oneCell'&&oneCells l):=rfl
theorem wF(l m:List Value):oneCells (l++m)=(oneCells l&&oneCells m):=by simp[oneCells]
theorem zN(l:List Bool):oneCells (et l)=true:=by grind[et,oneCells,Value.oneCell']
theorem sX(c vs:List Value):putCells c 0 vs=vs++c.drop vs.length:=by simp[putCells]
theorem A0(a:Value)(c:List Value)(o:Nat)(vs:List Value):putCells (a::c) (o+1) vs=a::putCells c o vs:=by simp[putCells,Nat.add_right_comm]
theorem Ox(k:IntKind)(n:Int):(Value.int k n).oneCell'=true:=rfl
theorem J6(b:Bool):(Value.bool b).oneCell'=true:=rfl
theorem Oz(s:ByteArray):(Value.string s).oneCell'=true:=rfl
theorem Oy(a:Option Addr):(Value.pointer a).oneCell'=true:=rfl
theorem Rk(a:Option Addr)(n m:Nat):(Value.slice a n m).oneCell'=true:=rfl
def contig:Nat->List (Nat×Nat)->Nat->Bool
 | off,[],n=>off==n
 | off,(o,s)::r,n=>o==off&&contig (off+s) r n
def sizesOK:List (Nat×Nat)->List Value->Bool
 | [],[]=>true
 | (_,s)::r,v::vs=>v.cells.size==s&&sizesOK r vs
 | _,_=>false
theorem lJ:∀(d:List<|Nat×Nat) (vs c b:List Value),contig c.length d (c.length+b.length)=true->sizesOK d vs=true->buildL (c++b) d vs=some (c++vs.flatMap (λv=>v.cells.toList))
 | [],[],c,b,h,_=>by
  grind[contig,buildL]
 | [],_::_,_,_,_,h=>by grind[sizesOK]
 | _::_,[],_,_,_,h=>by grind[sizesOK]
 | (o,s)::r,v::vs,c,b,h,e=>by
  simp[contig,ac₀,beq_iff_eq]at h;simp[sizesOK,ac₀,beq_iff_eq]at e;obtain⟨rfl,h⟩:=h;have f:s<=b.length:=by
   have:∀(r:List<|Nat×Nat) (a n:Nat),contig a r n=true->a<=n:=by
    intro r
    induction r with
    | nil=>grind[contig]
    | cons x r i=>
     grind[contig]
   grind
  have g:putCells (c++b) c.length v.cells.toList=(c++v.cells.toList)++b.drop s:=by
   grind[putCells,List.drop_append,List.drop_of_length_le]
  simp only[buildL];rw[if_pos ⟨e.1,by simp;omega⟩,g,lJ r vs (c++v.cells.toList) (b.drop s) ?_ e.2]
  all_goals grind
theorem DH{H:Heap}{b:List Value}{a:List<|Nat×Nat}{vs:List Value}(h:contig 0 a b.length=true)(c:sizesOK a vs=true):aJ (.build b a) vs H=some (.agg (vs.flatMap λv=>v.cells.toList).toArray):=by
 have:=lJ a vs [] b (by simpa using h) c
 grind[yJ]
theorem DI{H:Heap}(b:List Value)(a:List<|Nat×Nat)(vs:List Value):aJ (.build b a) vs H=match contig 0 a b.length&&sizesOK a vs with|true=>some (.agg (vs.flatMap λv=>v.cells.toList).toArray)|false=>(buildL b a vs).map λl=>.agg l.toArray:=by grind[DH,yJ]
theorem Ic{lo:Nat}{H:Heap}{z:List Value}{len:Nat}{a:List Nat}{vs:List Value}(h:contig 0 (a.map λi=>(i*z.length,z.length)) (bH z len).length=true)(b:sizesOK (a.map λi=>(i*z.length,z.length)) vs=true):cK lo (.bSl z len a) vs H=some (.slice (some ⟨H.length,0,none⟩) len len,H++[some<|vs.flatMap λv=>v.cells.toList]):=by
 have:=lJ _ vs [] (bH z len) (by simpa using h) b
 grind[Fc]
theorem Dq(z:List Value)(n:Nat):(bH z n).length=n*z.length:=by simp_all[bH]
theorem Ie{lo:Nat}{H:Heap}(z:List Value)(len:Nat)(a:List Nat)(vs:List Value):cK lo (.bSl z len a) vs H =
  match contig 0 (a.map λi=>(i*z.length,z.length)) (len*z.length)&&sizesOK (a.map λi=>(i*z.length,z.length)) vs with
  | true=>some (.slice (some ⟨H.length,0,none⟩) len len,H++[some<|vs.flatMap λv=>v.cells.toList])
  | false=>(buildL (bH z len) (a.map λi=>(i*z.length,z.length)) vs).map λl=>(.slice (some ⟨H.length,0,none⟩) len len,H++[some l]):=by grind[Ic,Dq,Fc]
section heavy
variable {lo:Nat}{H:Heap}
theorem Ih{b o:Nat}{k:IntKind}{n:Int}(h:lo<=b):cK lo (.st 1) [.pointer<|some ⟨b,o,none⟩,.int k n] H=(match H.get b with|some c=>(if o<c.length then some (undef,H.set b<|some<|c.set o<|.int k n) else none)|none=>none):=sA h rfl rfl
theorem Ig{b o:Nat}{n:Bool}(h:lo<=b):cK lo (.st 1) [.pointer<|some ⟨b,o,none⟩,.bool n] H=(match H.get b with|some c=>(if o<c.length then some (undef,H.set b<|some<|c.set o<|.bool n) else none)|none=>none):=sA h rfl rfl
theorem Ij{b o:Nat}{a:Option Addr}{n m:Nat}(h:lo<=b):cK lo (.st 1) [.pointer<|some ⟨b,o,none⟩,.slice a n m] H=(match H.get b with|some c=>(if o<c.length then some (undef,H.set b<|some<|c.set o<|.slice a n m) else none)|none=>none):=sA h rfl rfl
theorem Ni{n b o:Nat}{v:Value}(h:lo<=b)(_:1<n):cK lo (.st n) [.pointer<|some ⟨b,o,none⟩,v] H=if v.cells.size=n/\oneCells v.cells.toList=true then(match H.get b with|some c=>(if o+v.cells.toList.length<=c.length then some (undef,H.set b<|some<|putCells c o v.cells.toList) else none)|none=>none) else none:=Lz h
theorem Ii{b o:Nat}{a:Option Addr}(h:lo<=b):cK lo (.st 1) [.pointer<|some ⟨b,o,none⟩,.pointer a] H=(match H.get b with|some c=>(if o<c.length then some (undef,H.set b<|some<|c.set o<|.pointer a) else none)|none=>none):=sA h rfl rfl
theorem Ik{b o:Nat}{s:ByteArray}(h:lo<=b):cK lo (.st 1) [.pointer<|some ⟨b,o,none⟩,.string s] H=(match H.get b with|some c=>(if o<c.length then some (undef,H.set b<|some<|c.set o<|.string s) else none)|none=>none):=sA h rfl rfl
theorem rz{sz:Nat}{z:List Value}{i o n m:Nat}{sp:Option Nat}(a:0<n/\n<=4294967296):cK lo (.app sz z) [.slice none 0 0,.slice (some ⟨i,o,sp⟩) n m] H =
  (match H.get i with|some c=>(if o+n*sz<=c.length/\oneCells ((c.drop o).take<|n*sz)=true then some (.slice (some ⟨H.length,0,some sz⟩) n n,H++[some<|(c.drop o).take<|n*sz]) else none)|none=>none):=by grind[cK,hsem,Heap.cells,aZ,br]
theorem uO{sz b o len:Nat}{z:List Value}{i o' n m:Nat}{sp:Option Nat}(a:lo<=b)(e:0<n/\len+n<=4294967296):cK lo (.app sz z) [.slice (some ⟨b,o,some sz⟩) len len,.slice (some ⟨i,o',sp⟩) n m] H =
  (match H.get i with|some c=>(if o'+n*sz<=c.length/\oneCells ((c.drop o').take<|n*sz)=true then(match H.get b with|some d=>(if o+len*sz<=d.length then some (.slice (some ⟨H.length,0,some sz⟩) (len+n)<|len+n,H.set b none++[some<|(d.drop o).take (len*sz)++(c.drop o').take (n*sz)]) else none)|none=>none) else none)|none=>none):=by
 simp[cK,hsem]
 grind[aZ,br,Heap.cells]
theorem AA{sz d o n c a o' m c':Nat}{sp b:Option Nat}(f:lo<=d):cK lo (.cpy sz) [.slice (some ⟨d,o,sp⟩) n c,.slice (some ⟨a,o',b⟩) m c'] H =
  (match H.get a with|some ca=>(if o'+min m n*sz<=ca.length/\oneCells ((ca.drop o').take<|min m n*sz)=true then(match H.get d with|some e=>(if o+min m n*sz<=e.length then some (.int .i64 (min m n:Nat),H.set d<|some<|putCells e o<|(ca.drop o').take<|min m n*sz) else none)|none=>none) else none)|none=>none):=by
 simp[cK,hsem,Heap.cells]
 grind[Heap.put]
theorem tT(l m:List Int)(o:Nat):putCells (aW l) o (aW m)=aW (l.take o++(m++l.drop (o+m.length))):=by simp[putCells,aW]
theorem OP{len sz b o:Nat}{args:List Value}{a c d:Bool}:aJ (.slA len sz a c d) (.pointer (some ⟨b,o,none⟩)::args) H=(bounds len len a c d args).map λ(l,h,m)=>.slice (some ⟨b,if m=l then o else o+l*sz,none⟩) (h-l)<|m-l:=by rfl
theorem Qs{len cap:Nat}{k:IntKind}{h:Int}(a:0<=h)(b:h<=cap):bounds len cap false true false [.int k h]=some (0,h.toNat,cap):=by grind[bounds,toB]
theorem EH{len cap:Nat}{k:IntKind}{l:Int}(a:0<=l)(b:l<=len):bounds len cap true false false [.int k l]=some (l.toNat,len,cap):=by grind[bounds,toB]
theorem IB{len cap:Nat}{k a:IntKind}{l h:Int}(b:0<=l)(c:l<=h)(d:h<=cap):bounds len cap true true false [.int k l,.int a h]=some (l.toNat,h.toNat,cap):=by grind[bounds,toB,List.head?_cons,List.tail_cons]
theorem Qt{len cap:Nat}:bounds len cap false false false []=some (0,len,cap):=rfl
theorem AI{sz b o len cap:Nat}{args:List Value}{a c d:Bool}:aJ (.sl sz a c d) (.slice (some ⟨b,o,none⟩) len cap::args) H=(bounds len cap a c d args).map λ(l,h,m)=>.slice (some ⟨b,if m=l then o else o+l*sz,none⟩) (h-l)<|m-l:=by rfl
theorem OQ{sz len cap:Nat}{args:List Value}{a b c:Bool}:aJ (.sl sz a b c) (.slice none len cap::args) H=(bounds len cap a b c args).map λ(l,h,m)=>.slice none (h-l)<|m-l:=by rfl
theorem AH{sz b o len cap:Nat}{args:List Value}{a c:Bool}:aJ (.sl sz a c false) (.slice (some ⟨b,o,some sz⟩) len cap::args) H=(bounds len cap a c false args).map λ(l,h,m)=>.slice (some ⟨b,o+l*sz,some sz⟩) (h-l)<|m-l:=by grind[aJ]
end heavy
theorem Hf(c:Array Value):(Value.agg c).cells=c:=rfl
theorem Hg(k:IntKind)(n:Int):(Value.int k n).cells=#[.int k n]:=rfl
theorem CX(b:Bool):(Value.bool b).cells=#[.bool b]:=rfl
theorem Hi(s:ByteArray):(Value.string s).cells=#[.string s]:=rfl
theorem Hh(a:Option Addr):(Value.pointer a).cells=#[.pointer a]:=rfl
theorem Mj(a:Option Addr)(n m:Nat):(Value.slice a n m).cells=#[.slice a n m]:=rfl
theorem TZ(f:Fn)(a b:Array Value):(Value.func f a b).cells=#[.func f a b]:=rfl
def evB:=zzi @ev.eq_1<|zzi @ev.eq_2<|zzi @ev.eq_3<|zzi @ev.eq_4<|zzi @ev.eq_5<|zzi @RV<|zzi @Jm<|zzi @Jk<|zzi @DZ<|zzi @G7<|zzi @Jl<|zzi @ev1.eq_1<|zzi @evSets.eq_1<|zzi @evSets.eq_2<|zzi @evChk.eq_1<|zzi @evChk.eq_2<|zzi @evList.eq_1<|zzi @evList.eq_2<|zzi @holds.eq_1<|zzi @holds.eq_2<|zzi @setAll.eq_1<|zzi @setAll.eq_2<|zzi @setD.eq_1<|zzi @setD.eq_2<|zzi @tP<|zzi @Fm<|zzi @Ix<|zzi @if_true.{1} (zzi @if_false.{1} (zzi @Bool.false_eq_true<|zzi @decide_eq_true_eq<|zzi @decide_true<|zzi @decide_false<|zzi @not_true<|zzi @not_false_iff<|zzi @Option.isSome_some.{0} (zzi @Bool.and_true<|zzi @Bool.and_self<|zzi @kM<|zzi @if_pos.{1} (zzi @if_neg.{1} (zzi @and_self<|zzi @and_true<|zzi @true_and<|zzi @Fb<|zzi @Nh<|zzi @If<|zzi @Ie<|zzi @contig.eq_1<|zzi @contig.eq_2<|zzi @sizesOK.eq_1<|zzi @sizesOK.eq_2<|zzi @beq_self_eq_true.{0} (zzi @Nat.zero_mul<|zzi @Bool.true_and<|zzi @Bool.false_and<|zzi @Ih<|zzi @Ig<|zzi @Ij<|zzi @Ii<|zzi @Ik<|zzi @Ni<|zzi @rz<|zzi @AA<|zzi @tT<|zzi @uO<|zzi @eE<|zzi @Is<|zzi @Fi<|zzi @pO<|zzi @DA<|zzi @uQ<|zzi @Dp<|zzi @th<|zzi @EP<|zzi @C9<|zzi @Ap<|zzi @OP<|zzi @AI<|zzi @OQ<|zzi @AH<|zzi @Qs<|zzi @EH<|zzi @IB<|zzi @Qt<|zzi @wG<|zzi @tS<|zzi @wF<|zzi @zN<|zzi @Ox<|zzi @J6<|zzi @Oz<|zzi @Oy<|zzi @Rk<|zzi @Int.toNat_natCast<|zzi @List.all_cons.{0} (zzi @List.all_nil.{0} (zzi @List.toList_toArray.{0} (zzi @List.map_cons.{0,0} (zzi @List.map_nil.{0,0} (zzi @List.getElem?_cons_zero.{0} (zzi @List.getElem?_cons_succ.{0} (zzi @List.cons_append.{0} (zzi @List.nil_append.{0} (zzi @List.append_nil.{0} (zzi @List.set_cons_zero.{0} (zzi @List.set_cons_succ.{0} (zzi @List.replicate_succ.{0} (zzi @List.replicate_zero.{0} (zzi @List.length_cons.{0} (zzi @List.length_nil.{0} (zzi @R8<|zzi @Nr<|zzi @OR<|zzi @OG<|zzi @OK<|zzi @OM<|zzi @Ns<|zzi @R9<|zzi @OS<|zzi @Nw<|zzi @OI<|zzi @OD<|zzi @OC<|zzi @Nz<|zzi @Ny<|zzi @ON<|zzi @OO<|zzi @Nv<|zzi @Nu<|zzi @JG<|zzi @JH<|zzi @OJ<|zzi @OH<|zzi @Nt<|zzi @JF<|zzi @DK<|zzi @AG<|zzi @Fv<|zzi @JI<|zzi @JJ<|zzi @lV<|zzi @DJ<|zzi @JK<|zzi @JL<|zzi @OA<|zzi @JN<|zzi @OB<|zzi @JP<|zzi @JO<|zzi @Nx<|zzi @DI<|zzi @List.flatMap_cons.{0,0} (zzi @List.flatMap_nil.{0,0} (zzi @OE<|zzi @OF<|zzi @Ra<|zzi @Fx<|zzi @Fw<|zzi @Heap.at.eq_1<|zzi @aF<|zzi @bC<|zzi @Cv<|zzi @Cw<|zzi @aV<|zzi @aG<|zzi @aI<|zzi @HE<|zzi @HG<|zzi @Ac<|zzi @List.append_assoc.{0} (zzi @List.length_append.{0} (zzi @List.length_set.{0} (zzi @List.getElem?_toArray.{0} (zzi @List.size_toArray.{0} (zzi @Option.map_some.{0,0} (zzi @Option.some.injEq.{0} (zzi @buildL.eq_1<|zzi @buildL.eq_2<|zzi @Hf<|zzi @Hg<|zzi @CX<|zzi @Hi<|zzi @Hh<|zzi @Mj<|zzi @TZ<|zzi @sX<|zzi @A0<|zzi @List.length_take.{0} (zzi @List.length_drop.{0} (zzi @List.length_replicate.{0} (zzi @zF<|zzi @CZ<|zzi @List.take_zero.{0} (zzi @List.take_succ_cons.{0} (zzi @List.drop_zero.{0} (zzi @List.drop_succ_cons.{0} (zzi @List.take_nil.{0} (zzi @List.drop_nil.{0} (zzi @Nat.zero_add<|zzi @Nat.add_zero<|zzi @Nat.mul_one<|zzi @Nat.one_mul @Nat.sub_zero))))))))))))))))))))))))))))))))))))))))
def UY:=zzi @List.length_set.{0} (zzi @List.length_append.{0} (zzi @List.length_cons.{0} @List.length_nil.{0}))
theorem dO{P:Prop}(h:P:=by first|omega|(simp only[UY];omega)):P:=h
section
variable {cp:FuncId->Option CF}{lo:Nat}
def aD:=zzi @lI<|zzi @EC<|zzi @Av<|zzi @IA<|zzi @Mw<|zzi @HD<|zzi @PX<|zzi @PY<|zzi @EN<|zzi @EO<|zzi @nv<|zzi @JB<|zzi @JC<|zzi @OU<|zzi @OW<|zzi @OV<|zzi @OX<|zzi @if_true.{1} (zzi @if_false.{1} (zzi @setD.eq_1<|zzi @setD.eq_2<|zzi @setAll.eq_1<|zzi @setAll.eq_2<|zzi @List.set_cons_zero.{0} (zzi @List.set_cons_succ.{0} (zzi @Hf<|zzi @Hg<|zzi @CX<|zzi @Hi<|zzi @Hh @Mj))))
end
end Go.Abs
