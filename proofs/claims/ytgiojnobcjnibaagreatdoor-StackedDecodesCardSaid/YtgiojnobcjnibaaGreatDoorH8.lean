/- Lemmas. -/
import Derived.Test.YtgiojnobcjnibaaGreatDoorH7
import Derived.ProofKit
import Derived.OpenShut
import Derived.Carry
import Derived.JoinedCond
set_option linter.all false
def Xg{P:Prop}(h:P:=by grind[aG,aZ,az]):P:=h
def Xi{P:Prop}(h:P:=by grind[IntKind.wrap,IntKind.bits,IntKind.signed]):P:=h
def Yd{P:Prop}(h:P:=by grind[aG]):P:=h
namespace Go.Abs
def CLe(callA callB:dd):Prop:=∀lo f args H r,callA lo f args H=some r->callB lo f args H=some r
def CLeR(callA callB:CallR):Prop:=∀lo f args H r,callA lo f args H=some r->callB lo f args H=some r
theorem CLeR.toRet{a b:CallR}(h:CLeR a b):CLe a.ret b.ret:=λlo f args H (v,H') e=>qG<|h lo f args H _<|yP e
theorem CLeR.toPan{a b:CallR}(h:CLeR a b):CLe a.pan b.pan:=λlo f args H (v,H') e=>Ay<|h lo f args H _<|uQ e
theorem Ey{a b:CallR}(c:CLeR a b){lo:Nat}{o:HOp}{vs:XV}{H:Heap}{r:Value×Heap}(h:ct a lo o vs H=some r):ct b lo o vs H=some r:=by
 unfold ct at h;split at h
 .exact c.toPan _ _ _ _ _ h
 .exact h
 .grind
theorem Ki{callA b:dd}(e:CLe callA b){lo:Nat}{o:HOp}{vs:XV}{H:Heap}{r:Value×Heap}(h:hsem callA lo o vs H=some r):hsem b lo o vs H=some r:=by
 by_cases c:o.isCall=true
 .cases o<;>simp[HOp.isCall]at c
  case callK n=>
   simp[hsem]at h ⊢;unfold di at h ⊢;split at h
   .split at h
    next j i g=>
     rw[e _ _ _ _ _ g];exact h
    .cases h
   .cases h
  all_goals
   cases vs with
   | nil=>assumption
   | cons a r=>
    cases a<;>try simp[hsem]at h;done
    rename_i fn d f
    cases fn<;>try simp[hsem]at h;done
    exact e _ _ _ _ _ h
 grind[zU]
def Cp{f g:XV->Heap->Out}(a:∀S H r,f S H=some r->g S H=some r):∀(n m:Nat),n<=m->∀S H r,iter f n S H=some r->iter g m S H=some r
 | 0,_,_,_,_,_,h=>by grind[iter]
 | n+1,0,e,_,_,_,_=>by omega
 | n+1,m+1,e,S,H,r,h=>by
  simp[iter]at h ⊢;split at h
  next c b d=>
   rw[a _ _ _ d];exact Cp a n m byO c b r h
  grind
def Hu{f g:XV->Heap->Out}(a:∀S H r,f S H=some r->g S H=some r):∀(n m:Nat),n<=m->∀(x r:Ex×XV×Heap),hop f n (some x)=some r->hop g m (some x)=some r
 | 0,m,_,(x,S,H),r,h=>by
  cases x with
  | exit j=>
   simp only[hop]at h;split at h
   .grind
   next b=>
    cases m<;>simp only[hop,if_neg b]<;>exact h
  | normal=>cases m<;>exact h
  | ret=>cases m<;>exact h
 | n+1,0,d,x,r,h=>by omega
 | n+1,m+1,d,(x,S,H),r,h=>by
  cases x with
  | exit j=>
   simp[hop]at h ⊢;split at h
   next b=>
    rw[if_pos b];cases c:f (.int .i64 ((j-bM:Nat):Int)::S) H with
    | none=>grind[hop]
    | some e=>
     rw[c]at h;rw[a _ _ _ c];exact Hu a n m byO e r h
   grind
  | normal=>exact h
  | ret=>exact h
theorem bj{callA f:CallR}(e:CLeR callA f){lo n m:Nat}(d:n<=m):∀(s:Stm) (S:XV) (H:Heap) r,exec callA lo n s S H=some r->exec f lo m s S H=some r
 | .skip,S,H,r,h=>h
 | .exit i,S,H,r,h=>h
 | .ret,S,H,r,h=>h
 | .sets l k,S,H,r,h=>by assumption
 | .alt l s q,S,H,r,h=>by
  simp[exec]at h;split at h
  .simp[exec]
   split at h
   next t=>
    rw[if_pos t];exact bj e d s _ H r h
   next t=>
    rw[if_neg t];exact bj e d q _ H r h
  .grind
 | .scope b g,S,H,r,h=>by
  simp[exec]at h ⊢;cases u:exec callA lo n b S H with
  | none=>grind[hop]
  | some v=>
   rw[u]at h;rw[bj e d b S H v u];exact Hu (λS H r h=>bj e d g S H r h) n m d v r h
 | .dist a b,S,H,r,h=>by assumption
 | .hv l k A dst z a,S,H,r,h=>by
  simp[exec]at h ⊢;split at h
  .split at h
   next p=>
    simp[p,if_true];split at h
    .split at h
     .split at h
      next y=>
       rw[Ki e.toRet y];exact h
      grind[Ey,B0]
     .grind
    all_goals omega
   .grind
  .grind
 | .seq a b,S,H,r,h=>by
  simp[exec]at h ⊢;split at h
  next x w o=>
   rw[bj e d a _ _ _ o];exact bj e d b _ _ _ h
  .rw[bj e d a _ _ _ h]
   simp_all
 | .cond c a b,S,H,r,h=>by
  simp[exec]at h ⊢;split at h
  .exact bj e d a _ _ _ h
  .exact bj e d b _ _ _ h
  .grind
 | .block i b,S,H,r,h=>by
  simp[exec]at h ⊢;split at h
  next j x w o=>
   rw[bj e d b _ _ _ o];exact h
  .rw[bj e d b _ _ _ h]
   simp_all
 | .loop b,S,H,r,h=>by
  exact Cp (λS H r h=>bj e d b S H r h) n m d S H r h
theorem yT{cp:Wl}{a b:CallR}(d:CLeR a b){lo n m:Nat}(e:n<=m){g:FuncId}{args:XV}{c:Value}{H H':Heap}(h:jv cp a lo n g args c H=some H'):jv cp b lo m g args c H=some H':=by
 unfold jv at h ⊢;split at h<;>try (simp at h)
 grind[bj]
def yS{cp:Wl}{a b:CallR}(f:CLeR a b){lo n m j:Nat}(g:n<=m){e:List E}{c d rest:Stm}{S:XV}{H:Heap}{r:(Value ⊕ Value)×Heap}(h:iT cp a lo n e c d j rest S H=some r):iT cp b lo m e c d j rest S H=some r:=by
 unfold iT at h;split at h
 .grind[iT,bj]
 .grind[iT,bj]
 next k=>
  simp[iT,bj f g _ _ _ _ k];split at h<;>try simp at h;done
  rename_i i;simp[bj f g _ _ _ _ i];split at h<;>try simp at h;done
  grind[bj,yT]
 .grind
theorem l9{cp:Wl}:∀{n m:Nat},n<=m->CLeR (run cp n) (run cp m)
 | 0,_,_=>λ_ _ _ _ _ h=>by grind[run]
 | n+1,0,e=>by omega
 | n+1,m+1,e=>λlo f args H r h=>by
  simp[run]at h ⊢;split at h
  .split at h
   next d=>
    simp[d,if_true];split at h
    .split at h
     next c b a=>
      rw[bj (l9 byO) byO _ _ _ _ a];exact h
     next c b a=>
      rw[bj (l9 byO) byO _ _ _ _ a];exact h
     next j q c b a=>
      rw[bj (l9 byO) byO _ _ _ _ a];exact h
     .grind
    .exact yS (l9 byO) byO h
    all_goals omega
   .grind
  .grind
def fD{cp:Wl}{lo:Nat}{f:FuncId}{args:XV}{H:Heap}{v:Value}{H':Heap}(n:Nat)(h:run cp n lo f args H=some (.inl v,H')){R:Wq}(a:R v H'):Ev cp lo f args H R:=
 ⟨n,v,H',λ_ b=>l9 b _ _ _ _ _ h,a⟩
def mv0(n:Nat):Mv:=⟨n,0,0,Nat.zero_le _,λh=>by simp at h⟩
theorem Ib(n i:Nat):(mv0 n).f i=n+i:=by simp[mv0,Mv.f]
def zH{cp:Wl}(t:∀f cf,cp f=some cf->fo cf=true){f:FuncId}{args:XV}(q:args.all gT=true){v:Value}{d:Heap}(n:Nat)(h:run cp n 0 f args []=some (.inl v,d)){lo:Nat}{H:Heap}(s:lo<=H.length){R:Wq}
  (p:∀b H',Sh (mv0 H.length) v b->HSh (mv0 H.length) d H'->(∀i,i<H.length->H'[i]?=H[i]?)->R b H'):Ev cp lo f args H R:=by
 have a:LSh (mv0 H.length) args args:=by
  refine⟨rfl,λj x y k l=>?_⟩;rw[k]at l;cases l;exact dU<|List.all_eq_true.1 q _<|List.mem_of_getElem? k
 have⟨b,m,o,e,g⟩:=od t n 0 lo f args args [] H _ d ⟨Nat.le_refl _,by simp[mv0];omega⟩ a ⟨by simp[mv0],λi c r=>by simp[Heap.get]at r⟩ h;cases b with
 | inr u=>exact e.elim
 | inl b=>
 exact fD n o<|p b m e g.sh g.pre
inductive Ty where
 | bool
 | int (k:IntKind)
 | str
 | rcd (l:List Ty)
 | arr (n:Nat) (e:Ty)
 | sl (e:Ty)
mutual
def Ty.size:Ty->Nat
 | .rcd l=>Ty.sizes l
 | .arr n e=>n*Ty.size e
 | _=>1
def Ty.sizes:List Ty->Nat
 | []=>0
 | t::r=>Ty.size t+Ty.sizes r
end
mutual
def Ty.flat:Ty->Bool
 | .rcd l=>Ty.flats l
 | .arr _ e=>Ty.flat e
 | .sl _=>false
 | _=>true
def Ty.flats:List Ty->Bool
 | []=>true
 | t::r=>Ty.flat t&&Ty.flats r
end
mutual
def Ty.shallow:Ty->Bool
 | .rcd l=>Ty.shallows l
 | .arr _ e=>Ty.flat e
 | .sl e=>Ty.flat e
 | _=>true
def Ty.shallows:List Ty->Bool
 | []=>true
 | t::r=>Ty.shallow t&&Ty.shallows r
end
def rV(P:Program)(g:TypeId->Option Ty):Nat->List Field->Option (List Ty)
 | _,[]=>some []
 | off,f::r=>match g f.type with
  | some ty=>if f.offset=off/\P.cellsOf f.type=ty.size then
    match rV P g (off+ty.size) r with
    | some l=>some (ty::l)
    | none=>none
   else none
  | none=>none
def jR(P:Program):Nat->TypeId->Option Ty
 | 0,_=>none
 | d+1,t=>match P.underlying t with
  | some .bool=>some .bool
  | some (.int k)=>some<|.int k
  | some .string=>some .str
  | some (.slice e)=>match jR P d e with
   | some ty=>if P.cellsOf e=ty.size/\0<ty.size then some (.sl ty) else none
   | none=>none
  | some (.struct fs)=>match rV P (jR P d) 0 fs.toList with
   | some l=>if P.cellsOf t=Ty.sizes l then some (.rcd l) else none
   | none=>none
  | some (.array n e)=>match jR P d e with
   | some ty=>if P.cellsOf e=ty.size/\P.cellsOf t=n*ty.size then some (.arr n ty) else none
   | none=>none
  | _=>none
def HasN(p:XV->Prop):Nat->XV->Prop
 | 0,vs=>vs=[]
 | n+1,vs=>∃a b,vs=a++b/\p a/\HasN p n b
mutual
def Has(B:Nat)(H:Heap):Ty->XV->Prop
 | .bool,vs=>∃b,vs=[.bool b]
 | .int k,vs=>∃n,vs=[.int k n]/\k.min<=n/\n<=k.max
 | .str,vs=>∃s:ByteArray,vs=[.string s]/\s.size<=B
 | .rcd l,vs=>HasAll B H l vs
 | .arr n e,vs=>HasN (Has B H e) n vs
 | .sl e,vs=>vs=[.slice none 0 0]\/∃i len cap c,vs=[.slice (some ⟨i,0,none⟩) len cap]/\len<=cap/\cap<=B/\i<H.length/\H.get i=some c/\HasN (Has B H e) cap c
def HasAll(B:Nat)(H:Heap):List Ty->XV->Prop
 | [],vs=>vs=[]
 | t::r,vs=>∃a b,vs=a++b/\Has B H t a/\HasAll B H r b
end
theorem HasN.mono{p q:XV->Prop}(h:∀vs,p vs->q vs):∀(n:Nat) (vs:XV),HasN p n vs->HasN q n vs
 | 0,_,e=>e
 | n+1,_,⟨a,b,e,c,d⟩=>⟨a,b,e,h _ c,HasN.mono h n b d⟩
def Longer(H H':Heap):Prop:=∃r,H'=H++r
theorem Longer.refl(H:Heap):Longer H H:=⟨[],Wc⟩
theorem Longer.trans{H c d:Heap}(a:Longer H c)(b:Longer c d):Longer H d:=by obtain⟨r,rfl⟩:=a;obtain⟨s,rfl⟩:=b;exact⟨r++s,Wc⟩
theorem Longer.get{H H':Heap}(h:Longer H H'){i:Nat}{c:XV}(a:H.get i=some c):H'.get i=some c:=by
 obtain⟨r,rfl⟩:=h
 grind[dv]
theorem Longer.len{H H':Heap}(h:Longer H H'):H.length<=H'.length:=by obtain⟨r,rfl⟩:=h;simp
mutual
theorem Has.mono{B:Nat}{H H':Heap}(h:Longer H H'):∀(t:Ty) (vs:XV),Has B H t vs->Has B H' t vs
 | .bool,_,e=>by simpa only[Has]using e
 | .int k,_,e=>by simpa only[Has]using e
 | .str,_,e=>by simpa only[Has]using e
 | .rcd l,vs,e=>by simp only[Has]at e ⊢;exact HasAll.mono h l vs e
 | .arr n e,vs,x=>by simp only[Has]at x ⊢;exact HasN.mono (fun vs=>Has.mono h e vs) n vs x
 | .sl e,vs,x=>by
  simp only[Has]at x ⊢;rcases x with x|⟨i,len,cap,c,h1,h2,h3,h4,h5,h6⟩
  ·exact .inl x
  ·exact .inr ⟨i,len,cap,c,h1,h2,h3,bd₀ h4 h.len,h.get h5,HasN.mono (fun vs=>Has.mono h e vs) cap c h6⟩
theorem HasAll.mono{B:Nat}{H H':Heap}(h:Longer H H'):∀(l:List Ty) (vs:XV),HasAll B H l vs->HasAll B H' l vs
 | [],_,e=>by simpa only[HasAll]using e
 | t::r,vs,e=>by
  simp only[HasAll]at e ⊢;obtain⟨a,b,h1,h2,h3⟩:=e;exact⟨a,b,h1,Has.mono h t a h2,HasAll.mono h r b h3⟩
end
mutual
def Fits{X:Type}(B:Nat):DataW X->Prop
 | .lit (.string l)=>l.length<=B
 | .slice es sp=>es.length+sp.length<=B/\FitsAll B es/\FitsAll B sp
 | .agg ds=>FitsAll B ds
 | _=>True
def FitsAll{X:Type}(B:Nat):List (DataW X)->Prop
 | []=>True
 | d::r=>Fits B d/\FitsAll B r
end
theorem FitsAll.mem{X:Type}{B:Nat}:∀{l:List<|DataW X} {d:DataW X},FitsAll B l->d ∈ l->Fits B d
 | [],_,_,h=>by simp at h
 | x::r,d,h,a=>by
  rcases List.mem_cons.1 a with rfl|a
  .exact h.1
  .exact FitsAll.mem h.2 a
abbrev Small{X:Type}(B:Nat)(d:DataW X):Prop:=maxLen<=B\/Fits B d
section
variable {X:Type}{enc:TypeId×Value->X}{P:Program}{w:World}{B:Nat}
abbrev trd(enc:TypeId×Value->X)(P:Program)(w:World):=DataW.trod enc P w 0 (λ_=>true) true
theorem RQ{k:IntKind}{n:Int}(h:(Lit.int k n).wf=true):k.min<=n/\n<=k.max:=by grind[Lit.wf]
structure FlatOK (B:Nat)(H:Heap)(ty:Ty)(cs:XV):Prop where
 has:Has B H ty cs
 plain:cs.all bU=true
 len:cs.length=ty.size
theorem x4{p:XV->Prop}(k:Nat):∀(n:Nat) (a:XV),a.length=n*k->(∀i,i<n->p ((a.drop<|i*k).take k))->HasN p n a
 | 0,a,b,_=>by grind[HasN]
 | n+1,a,b,h=>by
  refine⟨a.take k,a.drop k,(List.take_append_drop k a).symm,by simpa using h 0 byO,x4 k n (a.drop k) Xu λi c=>?_⟩
  grind[List.drop_drop]
def mr(k:Nat):∀(n:Nat) (a:XV),a.length=n*k->(∀i,i<n->((a.drop<|i*k).take k).all bU=true)->a.all bU=true
 | 0,a,b,_=>by
  simp_all
 | n+1,a,b,h=>by
  have c:(a.take k).all bU=true:=by simpa using h 0 byO
  have d:(a.drop k).all bU=true:=mr k n (a.drop k) Xu (λi e=>by
   grind[List.drop_drop])
  grind[List.take_append_drop]
theorem nV(H:Heap):∀(d:Nat) (t:TypeId) (ty:Ty) (v:Nat) (p:XV) (x:DataW X×List MemPlace),jR P d t=some ty->ty.flat=true->trd enc P w v t p=some x->Small B x.1->FlatOK B H ty p
 | 0,_,_,_,_,_,h,_,_,_=>by grind[jR]
 | d+1,t,ty,v,p,x,a,R,L,Q=>by
  simp[jR]at a;split at a
  next u=>
   cases a;obtain⟨b,rfl,rfl⟩:=DataW.trod_bool u L;exact⟨by grind[Has],rfl,rfl⟩
  next k u=>
   cases a;obtain⟨n,rfl,rfl,hw⟩:=DataW.trod_int u L;exact⟨by simp_all[Has,RQ],rfl,rfl⟩
  next u=>
   cases a;obtain⟨s,rfl,rfl,hw⟩:=DataW.trod_string u L;refine⟨?_,rfl,rfl⟩;simp only[Has];refine⟨s,rfl,?_⟩;rcases Q with Q|Q
   .omega
   assumption
  .grind[Ty.flat]
  next W u=>
   split at a
   next l j=>
    split at a
    next Z=>
     cases a;obtain⟨xs,n,rfl,rfl,J,M,N⟩:=DataW.trod_struct u L;simp[Ty.flat]at R;have U:∀(q:List Field) (c F:Nat) (l:List Ty),rV P (jR P d) c q=some l->Ty.flats l=true->p.length=c+Ty.sizes l->(∀i f,q[i]?=some f->trd enc P w n f.type ((p.drop f.offset).take<|P.cellsOf f.type)=xs[F+i]?)->(F+q.length<=xs.length) ->
       HasAll B H l (p.drop c)/\(p.drop c).all bU=true:=by
      intro q
      induction q with
      | nil=>
       intro c F l j _ I _ _;simp[rV]at j;cases j;have:p.drop c=[]:=by simp_all[Ty.sizes]
       grind[HasAll]
      | cons f r ih=>
       intro c F l j A I y G;simp[rV]at j;split at j
       next ty a=>
        split at j
        next O=>
         split at j
         next l' C=>
          cases j;simp[Ty.flats,ac₀]at A;simp[Ty.sizes]at I;have z:=y 0 f rfl;rw[O.1,O.2]at z;simp at G;have D:F+0<xs.length:=byO;rw[bc₀ D]at z;have T:Small B (xs[F+0]).1:=by
           grind[Fits,FitsAll.mem]
          have f0:=nV H d f.type ty n _ _ a A.1 z T;have f1:=ih (c+ty.size) (F+1) l' C A.2 byO (λi g hg=>by
           have:=y (i+1) g Wx
           grind) byO
          grind[List.drop_drop,List.take_append_drop,HasAll,FlatOK.has,FlatOK.plain]
         .grind
        .grind
       .grind
     have:=U W.toList 0 0 l j R byO (λi f Y=>by grind) (by simp[M]);refine⟨by grind[Has],Wx,by grind[Ty.size]⟩
    simp_all
   simp_all
  next n e u=>
   split at a
   next o K=>
    split at a
    next O=>
     cases a;obtain⟨xs,m,rfl,rfl,J,M,N⟩:=DataW.trod_array u L;have V:∀i,i<n->FlatOK B H o ((p.drop<|i*o.size).take o.size):=by
      intro i S;have z:=N i S;rw[O.1]at z;have D:i<xs.length:=byO;rw[bc₀ D]at z;apply nV H d e o m _ _ K R z
      grind[Fits,FitsAll.mem]
     have C:p.length=n*o.size:=byO;refine⟨by grind[Has,x4,FlatOK.has],mr o.size n p C λi S=>(V i S).plain,Xf⟩
    simp_all
   simp_all
  simp_all
structure HR (φ:Map)(G:Nat)(H:Heap)(w:World):Prop where
 cell:∀i c,H.get i=some c->∃p arr ty fr,φ.c i=some p/\w.heap[p.b]?=some (.cells arr ty fr)/\arr.size=p.s+p.n/\c.length<=p.n/\(∀(j:Nat) v,c[j]?=some v->∃u,arr[p.s+j]?=some u/\VRel φ v u)
 dom:∀i p,φ i=some p->i<H.length
 glob:∀g,g<G->∃n,φ g=some ⟨g,0,n,0⟩
 plc:∀i p,φ i=some p->p.b<w.heap.size
theorem HR.rel{φ:Map}{G:Nat}{H:Heap}(h:HR φ G H w):HRel φ H.length G H w:=
 ⟨λi c a=>by
  have⟨p,arr,ty,f,e,g,k,l,m⟩:=h.cell i c a;exact⟨p,Map.of_lt e,.inl ⟨(Map.of_some.1 e).2,arr,ty,f,g,k,l,m,λb=>absurd (Heap.get_lt a) byO⟩⟩,
  λi j c d p q a _ _ _ b=>absurd (Heap.get_lt a) byO,h.dom,h.glob,h.plc⟩
def ZOK(w:World)(cs:XV):Prop:=∀a len,Value.slice (some a) len 0 ∈ cs->a.spot=none/\∃c t f,w.heap[a.block]?=some (.cells c t f)/\a.off<=c.size
theorem ZOK.sub{b ds:XV}(h:ZOK w b)(d:∀v ∈ ds,v ∈ b):ZOK w ds:=λa len c=>h a len<|d _ c
structure Lifted (φ:Map)(G:Nat)(H:Heap)(w:World)(B:Nat)(ty:Ty)(cs:XV)(φ':Map)(H':Heap)(vs:XV):Prop where
 hr:HR φ' G H' w
 le:φ.le φ'
 longer:Longer H H'
 has:Has B H' ty vs
 rel:LRel φ' vs cs
theorem Has.plain_lift{φ:Map}{G:Nat}{H:Heap}{ty:Ty}{a:XV}(b:HR φ G H w)(h:FlatOK B H ty a):Lifted φ G H w B ty a φ H a:=
 ⟨b,Map.le_refl φ,Longer.refl H,h.has,cK φ h.plain⟩
theorem HR.add{φ:Map}{G:Nat}{H:Heap}(l:HR φ G H w)(_:G<=H.length){b s:Nat}{arr:Array Value}{ty:TypeId}{o:Nat×Nat}(y:w.heap[b]?=some (.cells arr ty o)){c:XV}(J:s+c.length<=arr.size)
  (I:∀(j:Nat) v,c[j]?=some v->arr[s+j]?=some v/\bU v=true):HR (φ.set H.length ⟨b,s,arr.size-s,0⟩) G (H++[some c]) w:=by
 have k:φ.le<|φ.set H.length ⟨b,s,arr.size-s,0⟩:=by
  intro i p e;have:=l.dom i p e
  grind[Map.set]
 refine⟨λi d h=>?_,λi p e=>?_,λg z=>?_,λi p e=>?_⟩
 .rw[dv]at h
  by_cases A:i<H.length
  .rw[ax₀ A]at h
   have⟨p,a,t,f,q,r,u,x,F⟩:=l.cell i d<|dv.2 h;exact⟨p,a,t,f,Map.of_le k 0 _ _ q,r,u,x,λj v D=>by grind[VRel.mono]⟩
  .have m:=(List.getElem?_eq_some_iff.1 h).1
   simp at m;obtain rfl:i=H.length:=byO;simp at h;subst h;refine⟨⟨b,s,arr.size-s,0⟩,arr,ty,o,Map.of_some.2 ⟨XG,rfl⟩,y,Wr,Wr,λj v D=>?_⟩
   grind[gS]
 .simp[Map.set]at e
  split at e
  .simp_all
  .have:=l.dom i p e;simp;omega
 .have⟨n,C⟩:=l.glob g z
  exact⟨n,k _ _ C⟩
 .simp[Map.set]at e
  split at e
  .grind
  .exact l.plc i p e
def sg{a:Addr}{v:Value}(h:w.cell? a=some v):a.spot=none/\∃c t f,w.heap[a.block]?=some (.cells c t f)/\c[a.off]?=some v:=by
 unfold World.cell? at h;split at h
 all_goals simp_all
def pM{G:Nat}:∀(d:Nat) (t:TypeId) (ty:Ty) (J:Nat) (D:XV) (x:DataW X×List MemPlace),jR P d t=some ty->ty.shallow=true->trd enc P w J t D=some x->Small B x.1->ZOK w D ->
  ∀(φ:Map) (H:Heap),HR φ G H w->G<=H.length->∃C H' vs,Lifted φ G H w B ty D C H' vs
 | 0,_,_,_,_,_,h,_,_,_,_=>by grind[jR]
 | d+1,t,ty,J,D,x,o,Y,hx,hB,hz=>by
  intro φ H O hG;by_cases hf:ty.flat=true
  .exact⟨φ,H,D,Has.plain_lift O<|nV H (d+1) t ty J D x o hf hx hB⟩
  simp[jR]at o;split at o
  .grind[Ty.flat]
  .grind[Ty.flat]
  .grind[Ty.flat]
  next e hu=>
   split at o
   next b b1=>
    split at o
    next hc=>
     cases o;simp[Ty.shallow]at Y;rcases DataW.trod_slice hu hx with ⟨rfl,_⟩|⟨a,len,k,R,rest,n,rfl,rfl,rfl,hb,r0,p1,r1,he,x0,_⟩
     .exact⟨φ,H,[.slice none 0 0],O,Map.le_refl φ,Longer.refl H,by grind[Has.eq_def],cK φ rfl⟩
     .have⟨y1,s0⟩:=x0 rfl
      have a0:∀i,i<k->∃q y,w.cells? 0 (a.add<|i*b.size) b.size=some q/\trd enc P w n e q=some y/\y ∈ R++rest:=by
       intro i M;by_cases w1:i<len
       .grind[Option.bind_eq_some_iff]
       .have S:=s0 (i-len) byO
        rw[bc₀ byO,ae₀,hc.1,show len+(i-len)=i by omega]at S
        grind
      have A:∀i j,i<k->j<b.size->∃q,w.cells? 0 (a.add<|i*b.size) b.size=some q/\q.length=b.size/\w.cell? ((a.add<|i*b.size).add j)=q[j]?/\FlatOK B H b q:=by
       intro i j M hj;have⟨q,y,h1,h2,h3⟩:=a0 i M;have hs:=World.cells?_some h1
       grind[Fits,nV,FitsAll.mem]
      have z:a.spot=none/\∃c t f,w.heap[a.block]?=some (.cells c t f)/\a.off+k*b.size<=c.size:=by
       by_cases S:k=0
       .subst S
        have⟨z1,c,t,f,z2,z3⟩:=hz a len Wc
        simp_all
       .have⟨j1,_,q2,q3,_⟩:=A 0 0 byO hc.2
        rw[bc₀ byO]at q3;simp[Addr.add]at q3;have⟨z1,c,t,f,z2,z3⟩:=sg q3;refine⟨z1,c,t,f,z2,?_⟩;have⟨k1,_,r2,r3,_⟩:=A (k-1) (b.size-1) byO byO;rw[bc₀ byO]at r3;have⟨_,c',t',f',y2,y3⟩:=sg r3;have z:((a.add<|(k-1)*b.size).add<|b.size-1).block=a.block:=by
         grind[Addr.add]
        have j0:((a.add<|(k-1)*b.size).add<|b.size-1).off=a.off+(k-1)*b.size+(b.size-1):=by
         grind[Addr.add]
        rw[z,z2]at y2;cases y2;have V:=(Array.getElem?_eq_some_iff.1 y3).1;rw[j0]at V;have:k*b.size=(k-1)*b.size+b.size:=by
         obtain⟨m,rfl⟩:∃m,k=m+1:=⟨k-1,byO⟩
         grind
        omega
      have⟨L,arr,g1,fr,z,W⟩:=z;have⟨ab,N,e1⟩:=a;simp only at L;subst L;simp only at z W;have b0:∀n,(⟨ab,N,none⟩:Addr).add n=⟨ab,N+n,none⟩:=de ab N
      let c:=(arr.toList.drop N).take<|k*b.size
      have e0:c.length=k*b.size:=Xu
      have K:∀i,i<k->FlatOK B H b ((c.drop<|i*b.size).take b.size):=by
       intro i M;have⟨q,q1,q2,_,q4⟩:=A i 0 M hc.2;have:(c.drop<|i*b.size).take b.size=q:=by
        apply List.ext_getElem?;intro j;by_cases hj:j<b.size
        .have⟨m1,l0,_,H0,_⟩:=A i j M hj
         rw[q1]at l0;cases l0;rw[<-H0,b0,de];have o1:(i+1)*b.size<=k*b.size:=Nat.mul_le_mul_right _ M
         grind[World.cell?]
        grind
       simp_all
      have x1:c.all bU=true:=mr b.size k c e0 λi M=>(K i M).plain;have T:=O.add hG z (c:=c) (s:=N) byO (λj v hv=>by
       grind)
      refine⟨_,_,[.slice (some ⟨H.length,0,none⟩) len k],T,?_,⟨_,rfl⟩,?_,?_⟩
      .intro i p hp
       have:=O.dom i p hp
       grind[Map.set]
      .simp only[Has]
       refine .inr ⟨H.length,len,k,c,rfl,r0,?_,Wc,?_,?_⟩
       .grind[Fits]
       .grind[dv]
       .exact x4 b.size k c e0 λi M=>Has.mono ⟨_,rfl⟩ _ _ (K i M).has
      .have:=VRel.slice (φ:=φ.set H.length ⟨ab,N,arr.size-N,0⟩) H.length 0 len k ⟨ab,N,arr.size-N,0⟩<|Map.of_some.2 ⟨XG,rfl⟩
       grind[LRel.cons,LRel.nil]
    simp_all
   simp_all
  next fs hu=>
   split at o
   next l F=>
    split at o
    next A1=>
     cases o;obtain⟨xs,n,rfl,rfl,Z0,y0,B1⟩:=DataW.trod_struct hu hx;simp[Ty.shallow]at Y;have z0:∀(I:List Field) (u Z:Nat) (l:List Ty),rV P (jR P d) u I=some l->Ty.shallows l=true->D.length=u+Ty.sizes l->(∀i f,I[i]?=some f->trd enc P w n f.type ((D.drop f.offset).take<|P.cellsOf f.type)=xs[Z+i]?)->(Z+I.length<=xs.length) ->
       ∀(φ:Map) (H:Heap),HR φ G H w->G<=H.length->∃C H' vs,HR C G H' w/\φ.le C/\Longer H H'/\HasAll B H' l vs/\LRel C vs (D.drop u):=by
      intro I
      induction I with
      | nil=>
       intro u Z l F _ g0 _ _ φ H O hG;simp[rV]at F;cases F;have:D.drop u=[]:=by simp_all[Ty.sizes]
       rw[this];exact⟨φ,H,[],O,Map.le_refl φ,Longer.refl H,by rfl,LRel.nil φ⟩
      | cons f r ih=>
       intro u Z l F U g0 Q c0 φ H O hG;simp[rV]at F;split at F
       next ty o=>
        split at F
        next hc=>
         split at F
         next l' q0=>
          cases F;simp[Ty.shallows,ac₀]at U;simp[Ty.sizes]at g0;have S:=Q 0 f rfl;rw[hc.1,hc.2]at S;simp[ak₀]at c0;have V:Z+0<xs.length:=byO;rw[bc₀ V]at S;have w0:Small B (xs[Z+0]).1:=by
           grind[Fits,FitsAll.mem]
          have⟨X0,H1,S0,L1⟩:=pM (G:=G) d f.type ty n _ _ o U.1 S w0 (hz.sub λv hv=>List.mem_of_mem_drop<|List.mem_of_mem_take hv) φ H O hG;have⟨Y0,H2,T0,a1,a2,a3,a4,a5⟩:=ih (u+ty.size) (Z+1) l' q0 U.2 byO (λi g hg=>by
           have:=Q (i+1) g Wx
           grind) byO X0 H1 L1.hr<|Nat.le_trans hG L1.longer.len
          have o0:D.drop u=(D.drop u).take ty.size++D.drop (u+ty.size):=by
           grind[List.drop_drop,List.take_append_drop]
          refine⟨Y0,H2,S0++T0,a1,Map.le_trans L1.le a2,L1.longer.trans a3,?_,?_⟩
          all_goals grind[HasAll,Has.mono,Lifted.has,LRel.append,LRel.mono,Lifted.rel]
         .grind
        .grind
       .grind
     have⟨C,H',vs,a1,a2,a3,a4,a5⟩:=z0 fs.toList 0 0 l F Y byO (λi f u1=>by grind) (by simp[y0]) φ H O hG;exact⟨C,H',vs,a1,a2,a3,Xf,Wx⟩
    simp_all
   simp_all
  all_goals grind[Ty.shallow,Ty.flat]
end
open Go.ChangeShapes Go.WideShapes Go.ChangeAt Go.RowKit
def FJ{P:Program}{c:TypeId->Bool}:∀{d:Nat} {e:TypeId} {a b n:Nat},rowAt P c d e a b n=true->b<=a*P.cellsOf e
 | 0,_,_,_,_,h=>by grind[rowAt]
 | d+1,e,a,b,n,h=>by
  simp only[rowAt]at h;split at h
  .grind
  next g=>
   simp at h;have i:=Nat.div_add_mod b<|P.cellsOf e;have j:=Nat.mod_lt b<|Nat.pos_of_ne_zero g;rcases h with h|h
   .have f:b/P.cellsOf e<=a:=byO
    have:=Nat.mul_le_mul_left (P.cellsOf e) f
    grind
   .have f:b/P.cellsOf e+1<=a:=byO
    have:=Nat.mul_le_mul_left (P.cellsOf e) f
    grind
def tz{P:Program}:∀{d:Nat} {e:TypeId} {a b:Nat} {u:TypeId} {n:Nat},liesAt P d e a b u n=true->b<=a*P.cellsOf e
 | 0,_,_,_,_,_,h=>by grind[liesAt]
 | d+1,e,a,b,u,n,h=>by
  simp[liesAt,ar₀]at h;rcases h with h|h
  .exact FJ h
  .split at h
   .exact tz h
   .grind
section
variable {X:Type}{enc:TypeId×Value->X}{P:Program}{w:World}
theorem rY{r:Reach}{b:Nat}{u:TypeId}{a:Addr}{len:Nat}(h:Cell.okWide P w r b u<|.slice (some a) len 0):a.spot=none/\∃c t f,w.heap[a.block]?=some (.cells c t f)/\a.off<=c.size:=by
 have i:Cell.ok P w r b u<|.slice (some a) len 0:=by
  simp_all[Cell.okWide]
 unfold Cell.ok at i;split at i<;>rename_i e<;>first|(cases e;done)|skip
 .cases e
  have⟨_,_,k⟩:=i;have⟨_,m,row,d,g,l⟩:=k;refine⟨m,?_⟩;unfold World.shape? at g;split at g
  next c n f j=>
   simp at g;refine⟨c,n,f,j,?_⟩;have o:=tz l;have p:=Nat.div_mul_le_self d<|P.cellsOf row;omega
  simp_all
 simp_all
def R1{r:Reach}{d:Nat}{t:TypeId}{v:Value}(h:Value.okWide P w r d t v):ZOK w v.cells.toList:=by
 intro a len i;have b:(∃e,v=.agg e/\e.size=P.cellsOf t/\Row.okWide P w r d t e)->a.spot=none/\∃c t f,w.heap[a.block]?=some (.cells c t f)/\a.off<=c.size:=by
  rintro⟨e,rfl,_,j,_,_,g⟩
  grind[Value.cells,List.getElem?_of_mem,rY]
 unfold Value.okWide at h;split at h
 .exact b h
 .exact b h
 .cases v<;>simp[Value.cells]at i
  .grind[rY]
  simp_all[Cell.okWide,Cell.ok]
def HasArg(B:Nat)(H:Heap)(ty:Ty)(v:Value):Prop:=
 match ty with
 | .rcd l=>∃cs:Array Value,v=.agg cs/\HasAll B H l cs.toList
 | .arr n e=>∃cs:Array Value,v=.agg cs/\HasN (Has B H e) n cs.toList
 | ty=>Has B H ty [v]
def oo(B:Nat)(H:Heap):List Ty->XV->Prop
 | [],vs=>vs=[]
 | t::r,vs=>∃a b,vs=a::b/\HasArg B H t a/\oo B H r b
theorem HasArg.mono{B:Nat}{H H':Heap}(h:Longer H H'){ty:Ty}{v:Value}(e:HasArg B H ty v):HasArg B H' ty v:=by
 unfold HasArg at e ⊢
 grind[HasAll.mono,HasN.mono,Has.mono]
def Ck{B:Nat}{H:Heap}{ty:Ty}{vs:XV}(h:Has B H ty vs)(a:∀l,ty≠.rcd l)(b:∀n e,ty≠.arr n e):∃v,vs=[v]/\Has B H ty [v]:=by
 cases ty with
 | bool=>grind[Has]
 | int k=>grind[Has]
 | str=>grind[Has]
 | rcd l=>simp_all
 | arr n e=>simp_all
 | sl e=>
  grind[Has]
def J7{d:Nat}{t:TypeId}{l:List Ty}(h:jR P d t=some (.rcd l)):∃a,P.underlying t=some (.struct a):=by
 cases d with
 | zero=>grind[jR]
 | succ d=>
  grind[jR]
def J6{d:Nat}{t:TypeId}{n:Nat}{e:Ty}(h:jR P d t=some (.arr n e)):∃m u,P.underlying t=some (.array m u):=by
 cases d with
 | zero=>grind[jR]
 | succ d=>
  grind[jR]
def IQ{B G:Nat}{d:Nat}{t:TypeId}{ty:Ty}{v:Value}{x:DataW X}{ps:List MemPlace}{r:Reach}{j:Nat}(i:jR P d t=some ty)(y:ty.shallow=true)
  (C:DataW.Trod enc P w 0 (λ_=>true) true t v x ps) (o:Value.okWide P w r j t v) (K:Small B x) {φ:Map} {H:Heap} (O:HR φ G H w) (M:G<=H.length) :
  ∃b H' f,HR b G H' w/\φ.le b/\Longer H H'/\HasArg B H' ty f/\VRel b f v:=by
 have⟨k,C⟩:=C;have⟨b,H',vs,L⟩:=pM d t ty k _ _ i y C K (R1 o) φ H O M;have g:(∃c,v=.agg c)->(∀c:Array Value,v=.agg c->∃f:Array Value,vs=f.toList/\VRel b (.agg f) v):=by
  rintro _ c rfl;refine⟨vs.toArray,Wc,?_⟩;have p:=L.rel;simp[Value.cells]at p;have:=LRel.arr (a:=vs.toArray) (a':=c) |>.1 byO;exact .agg _ _ this.1 this.2
 by_cases F:∃l,ty=.rcd l
 .obtain⟨l,rfl⟩:=F
  have⟨D,z⟩:=J7 i;simp[Value.okWide,z]at o;obtain⟨c,rfl,_⟩:=o;obtain⟨f,rfl,h⟩:=g ⟨c,rfl⟩ c rfl;have q:=L.has;exact⟨b,H',.agg f,L.hr,L.le,L.longer,⟨f,rfl,q⟩,h⟩
 by_cases I:∃n e,ty=.arr n e
 .obtain⟨n,e,rfl⟩:=I
  have⟨m,u,z⟩:=J6 i;simp[Value.okWide,z]at o;obtain⟨c,rfl,_⟩:=o;obtain⟨f,rfl,h⟩:=g ⟨c,rfl⟩ c rfl;have q:=L.has;exact⟨b,H',.agg f,L.hr,L.le,L.longer,⟨f,rfl,q⟩,h⟩
 .obtain⟨a,rfl,Q⟩:=Ck L.has (λl e=>F ⟨l,e⟩) λn e J=>I ⟨n,e,J⟩
  refine⟨b,H',a,L.hr,L.le,L.longer,?_,?_⟩
  .simp_all[HasArg]
  .have p:=L.rel
   have s:∀c,v≠.agg c:=by
    rintro c rfl;have N:∀D,P.underlying t≠some (.struct D):=by
     cases d with
     | zero=>grind[jR]
     | succ d=>
      grind[jR]
    have s:∀n e,P.underlying t≠some (.array n e):=by
     cases d with
     | zero=>grind[jR]
     | succ d=>
      grind[jR]
    simp_all[Value.okWide,Cell.okWide,Cell.ok]
   have A:v.cells.toList=[v]:=by
    cases v<;>first|rfl|simp_all
   rw[A]at p;exact p.2 0 _ _ rfl rfl
def wI{B G:Nat}{d:Nat}{r:Reach}{g:Nat}:∀(f:List TypeId) (tys:List Ty) (vs:XV) (ds:List<|DataW X) (ps:List MemPlace),f.map (jR P d)=tys.map some->(∀ty ∈ tys,ty.shallow=true) ->
  DataW.TrodAll enc P w 0 (λ_=>true) true f vs ds ps->(∀(j:Nat) t v,f[j]?=some t->vs[j]?=some v->Value.okWide P w r g t v)->(∀x ∈ ds,Small B x)->∀{φ:Map} {H:Heap},HR φ G H w->G<=H.length ->
  ∃c H' b,HR c G H' w/\φ.le c/\Longer H H'/\oo B H' tys b/\LRel c b vs
 | [],tys,vs,ds,ps,a,_,e,_,_,φ,H,k,_=>by
  obtain⟨rfl,rfl,rfl⟩:=trodAll_nil e;have:tys=[]:=Wx
  subst this;exact⟨φ,H,[],k,Map.le_refl φ,Longer.refl H,rfl,LRel.nil φ⟩
 | t::f,[],vs,ds,ps,a,_,e,_,_,φ,H,k,_=>by simp at a
 | t::f,ty::tys,vs,ds,ps,a,i,e,z,u,φ,H,k,y=>by
  obtain⟨v,vs,x,ds,p,q,rfl,rfl,rfl,M,e⟩:=trodAll_cons e;simp at a;have⟨N,O,n,C,D,m,F,I⟩:=IQ a.1 (i ty Wc) M (z 0 t v rfl rfl) (u x Wc) k y;have⟨l,A,b,J,o,s,K,L⟩:=wI f tys vs ds q a.2 (λty h=>i ty (by simp[h])) e (λj t v Q R=>z (j+1) t v Wx Wx) (λx h=>u x (by simp[h])) C<|Nat.le_trans y m.len;exact⟨l,A,n::b,J,Map.le_trans D o,m.trans s,⟨n,b,rfl,F.mono s,K⟩,LRel.cons (I.mono o) L⟩
theorem oO{W f:World}(g:laidOutB P=true)(a:∀p:MemPlace,p.block<W.heap.size->W.sameAt f p):∀(c:List TypeId) (vs:XV) (ds:List<|DataW X) (ps:List MemPlace),(∀t ∈ c,P.readableRec t=true/\t<P.types.size) ->
  DataW.TrodAll enc P W 0 (λ_=>true) true c vs ds ps->DataW.TrodAll enc P f 0 (λb=>decide<|b<W.heap.size) true c vs ds ps
 | [],vs,ds,ps,_,h=>by
  obtain⟨rfl,rfl,rfl⟩:=trodAll_nil h;rfl
 | t::c,vs,ds,ps,e,h=>by
  have d:=h.lt;obtain⟨v,vs,x,ds,p,q,rfl,rfl,rfl,j,l⟩:=trodAll_cons h;exact⟨p,q,WideElems.Trod_stays g (e t Wc).1 (e t Wc).2 j (λy i=>a y<|d y (by simp[i])) λy i=>by simp_all,
   oO g a c vs ds q (λt k=>e t (by simp[k])) l,rfl⟩
end
def frz:Nat->XV
 | n+1=>undef::frz n
 | 0=>[]
def frm:XV->Nat->XV
 | a::l,n=>a::frm l n
 | [],n=>frz n
theorem Hl:(n:Nat)->frz n=List.replicate n undef
 | n+1=>by rw[frz,Hl n];rfl
 | 0=>rfl
theorem Hj:(l:XV)->(n:Nat)->frm l n=l++List.replicate n undef
 | a::l,n=>by rw[frm,Hj l n];rfl
 | [],n=>Hl n
def stG{cp:Wl}{lo:Nat}{f:FuncId}{np d:Nat}{r:List E}{b:Stm}{args:XV}{H:Heap}{R:Wq}(a:cp f=some ⟨np,d+np,r,b,.plain⟩)(c:args.length=np)(h:wpS cp lo b (gB ⟨0,0,r,.skip,.plain⟩ R) (frm args d) H):Ev cp lo f args H R:=
 kh a rfl c (by rw[Nat.add_sub_cancel,<-Hj];exact h)
def ncM{P:Prop}(h:P:=by first|rfl|(simp only[ap₀,Int.natCast_one];rfl)|simp only[ap₀,Int.natCast_one]):P:=h
structure Hdn (P:Prop):Prop where
 out:P
section control
variable {cp:Wl}{lo:Nat}
def AU(cp:Wl)(lo:Nat)(b:Stm)(Q:cF):cF:=λex S' H'=>match ex with | .normal=>wpS cp lo b Q S' H'|ex=>Q ex S' H'
def kP(i:Nat)(Q:cF):cF:=λex S' H'=>match ex with | .exit j=>if j=i then Q .normal S' H' else Q (.exit j) S' H'|ex=>Q ex S' H'
theorem Ai{a b:Stm}{Q:cF}{S:XV}{H:Heap}:wpS cp lo (.seq a b) Q S H=wpS cp lo a (AU cp lo b Q) S H:=rfl
def Fs{i:Nat}{b:Stm}{Q:cF}{S:XV}{H:Heap}:wpS cp lo (.block i b) Q S H=wpS cp lo b (kP i Q) S H:=rfl
theorem CH{Q:cF}{S:XV}{H:Heap}:wpS cp lo .skip Q S H=Q .normal S H:=rfl
def Jx{i:Nat}{Q:cF}{S:XV}{H:Heap}:wpS cp lo (.exit i) Q S H=Q (.exit i) S H:=rfl
def O0{Q:cF}{S:XV}{H:Heap}:wpS cp lo .ret Q S H=Q .ret S H:=rfl
theorem JQ{b:Stm}{Q:cF}{S:XV}{H:Heap}:AU cp lo b Q .normal S H=wpS cp lo b Q S H:=rfl
theorem fH{b:Stm}{Q:cF}{i:Nat}{S:XV}{H:Heap}:AU cp lo b Q (.exit i) S H=Q (.exit i) S H:=rfl
def Qv{b:Stm}{Q:cF}{S:XV}{H:Heap}:AU cp lo b Q .ret S H=Q .ret S H:=rfl
def GH{i:Nat}{Q:cF}{S:XV}{H:Heap}:kP i Q .normal S H=Q .normal S H:=rfl
def GI{i:Nat}{Q:cF}{S:XV}{H:Heap}:kP i Q .ret S H=Q .ret S H:=rfl
theorem ot{i j:Nat}{Q:cF}{S:XV}{H:Heap}:kP i Q (.exit j) S H=if j=i then Q .normal S H else Q (.exit j) S H:=rfl
def xG{l:List<|Nat×E}{a:List E}{Q:cF}{S:XV}{H:Heap}{vs:List<|Nat×Value}(h:evSets S H l=some vs)(d:evChk S H a=true){b:XV}(c:setAll S vs=b)(k:Q .normal b H):wpS cp lo (.sets l a) Q S H:=by grind[wpS]
theorem yk{l:List<|Nat×E}{b:List E}{dst:Option Nat}{o:HOp}{a:E}{Q:cF}{S:XV}{H:Heap}{vs:List<|Nat×Value}{xs:XV}(h:evSets S H l=some vs)(d:evChk S H b=true)(c:ev S H a=some xs)
  (k:wpH cp lo o xs H λv H'=>Q .normal (setD (setAll S vs) dst v) H'):wpS cp lo (.hv l b [] dst o a) Q S H:=by grind[wpS,holds]
theorem kO{l:List<|Nat×E}{b:List E}{dst:Option Nat}{o:HOp}{a:E}{Q:cF}{S:XV}{H:Heap}{vs:List<|Nat×Value}{xs:XV}(h:evSets S H l=some vs)(d:evChk S H b=true)(c:ev S H a=some xs)
  (k:wpP cp lo o xs H λv H'=>Q (.exit bN) (v::setAll S vs) H'):wpS cp lo (.hv l b [] dst o a) Q S H:=by grind[wpS,holds]
theorem Jk{f:FuncId}{a b:Array Value}{args:XV}{H:Heap}{R c:Wq}(h:EvP cp lo f (a.toList++args++b.toList) H c)(k:∀v H',c v H'->R v H'):wpP cp lo (.call false) (.func (.func f) a b::args) H R:=
 h.mono k
def jS{t:TypeId}{v:Value}{H:Heap}{R:Wq}(k:R (.iface t v) H):wpP cp lo .pan [.iface t v] H R:=k
def dz{f:FuncId}{a b:Array Value}{args:XV}{H:Heap}{R c:Wq}(h:Ev cp lo f (a.toList++args++b.toList) H c)(k:∀v H',c v H'->R v H'):wpH cp lo .callC (.func (.func f) a b::args) H R:=
 h.mono k
def aU{l:List<|Nat×E}{b:List E}{c:PC}{dst:Option Nat}{o:HOp}{a:E}{Q:cF}{S:XV}{H:Heap}{vs:List<|Nat×Value}{t:Bool}(h:evSets S H l=some vs)(d:evChk S H b=true)(e:holds S H c=some t)
  (f:t=true->∃xs,ev S H a=some xs/\wpH cp lo o xs H λv H'=>Q .normal (setD (setAll S vs) dst v) H') (g:t=false->Q .normal (setD (setAll S vs) dst undef) H):wpS cp lo (.hv l b c dst o a) Q S H:=by grind[wpS]
def bu{c:E}{a b:Stm}{Q:cF}{S:XV}{H:Heap}{t:Bool}(h:ev1 S H c=some (.bool t))(d:t=true->wpS cp lo a Q S H)(e:t=false->wpS cp lo b Q S H):wpS cp lo (.cond c a b) Q S H:=by grind[wpS]
def rp{a b:E}{Q:cF}{S:XV}{H:Heap}{x y:Value}(d:ev1 S H a=some x)(e:ev1 S H b=some y)(c:aT x=none\/aT x≠aT y)(k:Q .normal S H):wpS cp lo (.dist a b) Q S H:=by grind[wpS]
def Cu(J:Nat->XV->Heap->Prop)(m:Nat)(Q:cF):cF:=λex S' H'=>match ex with | .normal=>∃m',m'<m/\J m' S' H'|ex=>Q ex S' H'
def aj{b:Stm}{Q:cF}{S:XV}{H:Heap}(J:Nat->XV->Heap->Prop)(m:Nat)(a:J m S H)(c:∀m S H,J m S H->wpS cp lo b (Cu J m Q) S H):wpS cp lo (.loop b) Q S H:=⟨J,m,a,c⟩
theorem bJ{J:Nat->XV->Heap->Prop}{m:Nat}{Q:cF}{S:XV}{H:Heap}:Cu J m Q .normal S H=∃a,a<m/\J a S H:=rfl
theorem dt{J:Nat->XV->Heap->Prop}{m i:Nat}{Q:cF}{S:XV}{H:Heap}:Cu J m Q (.exit i) S H=Q (.exit i) S H:=rfl
def LD{J:Nat->XV->Heap->Prop}{m:Nat}{Q:cF}{S:XV}{H:Heap}:Cu J m Q .ret S H=Q .ret S H:=rfl
def ou{cf:CF}{R:Wq}{S:XV}{H:Heap}{vs:XV}(h:evList S H cf.res=some vs)(k:R (aR vs) H):gB cf R .ret S H:=by grind[gB]
def bQ{cf:CF}{R:Wq}{S:XV}{H:Heap}{vs:XV}(h:evList S H cf.res=some vs)(k:R (aR vs) H):gB cf R .normal S H:=by grind[gB]
theorem wpS.mono{st:Stm}{Q p:cF}{S:XV}{H:Heap}(h:wpS cp lo st Q S H)(d:∀g S H,Q g S H->p g S H):wpS cp lo st p S H:=by
 have k:∀(o:HOp) (vs:XV) (H:Heap) (R f:Wq),(∀v H,R v H->f v H)->wpH cp lo o vs H R->wpH cp lo o vs H f:=by
  intro o vs H R f A h;cases o
  case call y=>
   simp[wpH]at h ⊢
   grind[Ev.mono]
  case callC=>
   simp[wpH]at h ⊢
   grind[Ev.mono]
  all_goals grind[wpH,Ev.mono]
 have n:∀(o:HOp) (vs:XV) (H:Heap) (R f:Wq),(∀v H,R v H->f v H)->wpP cp lo o vs H R->wpP cp lo o vs H f:=by
  intro o vs H R f A h;unfold wpP at h ⊢
  grind[EvP.mono]
 revert h d
 induction st generalizing Q p S H with
 | skip=>intro h d;exact d _ _ _ h
 | sets l q=>
  grind[wpS]
 | hv l q D dst o a=>
  intro h d;simp[wpS]at h ⊢;split at h
  all_goals grind
 | dist a b=>
  grind[wpS]
 | seq a b e j=>
  intro h d;refine e h λg S H h=>?_
  grind
 | cond c a b e j=>
  grind[wpS]
 | block i b x=>
  intro h d;refine x h λg S H h=>?_
  grind
 | loop b x=>
  intro h d;have⟨J,m,t,w⟩:=h;refine⟨J,m,t,λm S H u=>x (w m S H u) λg S H h=>?_⟩
  grind
 | exit i=>intro h d;exact d _ _ _ h
 | ret=>intro h d;exact d _ _ _ h
 | alt l s r C B=>
  intro h d;simp[wpS]at h ⊢
  grind
 | scope b z j e=>
  intro h d;have⟨J,t,w⟩:=h;refine⟨J,j t λg S H h=>?_,λm l S H u=>e (w m l S H u) λg S H h=>?_⟩
  all_goals grind
theorem aB{f:FuncId}{a b:Array Value}{args:XV}{H:Heap}{R c:Wq}(h:Ev cp lo f (a.toList++args++b.toList) H c)(k:∀v H',c v H'->R v H'):wpH cp lo (.call false) (.func (.func f) a b::args) H R:=
 h.mono k
end control
def Ext(H H':Heap):Prop:=H.length<=H'.length/\∀i,i<H.length->H'.get i=H.get i
theorem Ext.refl(H:Heap):Ext H H:=⟨Nat.le_refl _,λ_ _=>rfl⟩
theorem Ext.trans{A B C:Heap}(h:Ext A B)(k:Ext B C):Ext A C:=⟨Nat.le_trans h.1 k.1,λi a=>(k.2 i<|bd₀ a h.1).trans<|h.2 i a⟩
theorem aX(H:Heap)(c:XV):Heap.get (H++[some c]) H.length=some c:=by grind[dv]
theorem kG{H:Heap}{x:Option XV}{i:Nat}(h:i<H.length):Heap.get (H++[x]) i=H.get i:=XW
theorem aE{H:Heap}{i:Nat}{c:XV}(h:i<H.length):Heap.get (H.set i<|some c) i=some c:=by grind[dv]
theorem aQ{H:Heap}{i j:Nat}{x:Option XV}(h:i≠j):Heap.get (H.set i x) j=H.get j:=XW
theorem Ext.push(H:Heap)(x:Option XV):Ext H<|H++[x]:=⟨Wc,λ_ h=>kG h⟩
theorem Ext.set{H H':Heap}(h:Ext H H'){i:Nat}{x:Option XV}(b:H.length<=i):Ext H<|H'.set i x:=⟨by simpa using h.1,λj a=>by rw[aQ byO];exact h.2 j a⟩
theorem Ext.push'{H H':Heap}(h:Ext H H')(x:Option XV):Ext H<|H'++[x]:=h.trans<|Ext.push _ _
theorem Ext.get{A B:Heap}(h:Ext A B){i:Nat}{c:XV}(a:A.get i=some c):B.get i=some c:=(h.2 i<|Heap.get_lt a).trans a
theorem Ext.of_push{A B:Heap}{x:Option XV}(h:Ext (A++[x]) B):Ext A B:=(Ext.push A x).trans h
theorem aI{H:Heap}{c:XV}{L:Heap}:Heap.get (H++(some c::L)) H.length=some c:=by grind[dv]
theorem bI{H L:Heap}{k:Nat}:Heap.get (H++L) (H.length+k)=Heap.get L k:=XW
theorem fT{H L:Heap}{i:Nat}(h:i<H.length):Heap.get (H++L) i=H.get i:=XW
def EN{c:XV}{L:Heap}:Heap.get (some c::L) 0=some c:=rfl
def EO{x:Option XV}{L:Heap}{k:Nat}:Heap.get (x::L) (k+1)=Heap.get L k:=rfl
def JR{H L:Heap}{x y:Option XV}:(H++(x::L)).set H.length y=H++(y::L):=Wc
def JS{H L:Heap}{k:Nat}{y:Option XV}:(H++L).set (H.length+k) y=H++L.set k y:=Wx
def Bn{H L:Heap}{i:Nat}{y:Option XV}(h:i<H.length):(H++L).set i y=H.set i y++L:=Wx
theorem Ext.app(H L:Heap):Ext H<|H++L:=⟨Wc,λ_ h=>fT h⟩
theorem Ext.of_app{A B L:Heap}(h:Ext (A++L) B):Ext A B:=(Ext.app A L).trans h
section
variable {cp:Wl}{lo:Nat}
def IM{H H':Heap}{l:XV}(e:Ext H H')(h:∀v ∈ l,∀i,aT v=some i->∃c,H.get i=some c):l.all (iI H H')=true:=by
 rw[List.all_eq_true];intro v d;unfold iI;split
 next i b=>
  have⟨c,a⟩:=h v d i b;exact oi.2 ⟨c,a,e.get a⟩
 .rfl
def EvD(cp:Wl)(lo:Nat)(l:XV)(H:Heap)(R:Wq):Prop:=match l with
 | .func (.func f) first cap::args=>Ev cp lo f (first.toList++args++cap.toList) H R
 | _=>False
def aS{n:Nat}{vs:XV}{H:Heap}{R a:Wq}(h:EvD cp lo (vs.drop n) H a)(k:∀v H',a v H'->R v H')
  (d:∀v H',a v H'->Ext H H':=by first|(intro _ _ h;exact h.1)|(rintro _ _ ⟨rfl,_⟩;exact Ext.refl _)|(rintro _ _ rfl;exact Ext.refl _))
  (b:∀v ∈ vs.take n,∀i,aT v=some i->∃c,H.get i=some c:=by simp(disch:=first|omega|(simp only[Se];omega)) [aT,evB, *]):wpH cp lo (.callK n) vs H R:=by
 simp only[wpH];unfold EvD at h;split at h
 next e=>
  rw[e];exact h.mono λv H' x=>⟨IM (d v H' x) b,k v H' x⟩
 .cases h
end
theorem AW{k:Mv}{v c:Value}(h:bU v=true)(s:Sh k v c):c=v:=by
 cases s<;>first|rfl|simp[bU]at h
 rename_i f a b a' d l m n o;have e:a=#[]:=by simpa using h.1
 have g:b=#[]:=by simpa using h.2
 subst e g;have i:a'=#[]:=by simpa using l.symm
 have j:d=#[]:=by simpa using m.symm
 subst i j;rfl
theorem wP{k:Mv}:∀{c c':XV},c.all bU=true->LSh k c c'->c'=c
 | [],c',_,s=>s.of_nil
 | x::c,c',h,s=>by
  simp only[List.all_cons,ac₀]at h;obtain⟨y,r,rfl,a,b⟩:=s.of_cons;rw[AW h.1 a,wP h.2 b]
def Heap.at(H:Heap)(b o:Nat):Option Value:=match H.get b with|some c=>c[o]?|none=>none
theorem cells_get{H:Heap}{b:Nat}{c:XV}(h:H.get b=some c){o n:Nat}(a:o+n<=c.length):H.cells b o n=some ((c.drop o).take n):=by grind[Heap.cells]
theorem nf{H:Heap}{lo b:Nat}{c:XV}(h:H.get b=some c)(a:lo<=b){o:Nat}{vs:XV}(d:o+vs.length<=c.length):H.put lo b o vs=some (H.set b<|some<|putCells c o vs):=by grind[Heap.put]
theorem yK{c:XV}{o:Nat}{v:Value}(h:o<c.length):putCells c o [v]=c.set o v:=by grind[putCells,List.set_eq_take_append_cons_drop]
section light
variable {H:Heap}
def Sg(x:Value):aG .mv [x] H=some x:=rfl
def Pf(k:IntKind)(a b:Int):aG (.bin .add) [.int k a,.int k b] H=some (.int k<|k.wrap<|a+b):=Xg
def QH(k:IntKind)(a b:Int):aG (.bin .sub) [.int k a,.int k b] H=some (.int k<|k.wrap<|a-b):=Xg
def Pw(k:IntKind)(a b:Int):aG (.bin .mul) [.int k a,.int k b] H=some (.int k<|k.wrap<|a*b):=Xg
def QA{k:IntKind}{a b:Int}(h:b≠0):aG (.bin .quo) [.int k a,.int k b] H=some (.int k<|k.wrap<|a.tdiv b):=Xg
def QB{k:IntKind}{a b:Int}(h:b≠0):aG (.bin .rem) [.int k a,.int k b] H=some (.int k<|a.tmod b):=Xg
def Pg(k:IntKind)(a b:Int):aG (.bin .and) [.int k a,.int k b] H=some (.int k<|k.wrap (BitVec.ofInt k.bits a &&& BitVec.ofInt k.bits b).toNat):=Xg
def Si(k:IntKind)(a b:Int):aG (.bin .or) [.int k a,.int k b] H=some (.int k<|k.wrap (BitVec.ofInt k.bits a ||| BitVec.ofInt k.bits b).toNat):=Xg
def QI(k:IntKind)(a b:Int):aG (.bin .xor) [.int k a,.int k b] H=some (.int k<|k.wrap (BitVec.ofInt k.bits a ^^^ BitVec.ofInt k.bits b).toNat):=Xg
def Pl(k:IntKind)(a b:Int):aG (.bin .eql) [.int k a,.int k b] H=some (.bool<|decide<|a=b):=Xg
def Py(k:IntKind)(a b:Int):aG (.bin .neq) [.int k a,.int k b] H=some (.bool<|decide<|a≠b):=Xg
def Pt(k:IntKind)(a b:Int):aG (.bin .lss) [.int k a,.int k b] H=some (.bool<|decide<|a<b):=Xg
def Ps(k:IntKind)(a b:Int):aG (.bin .leq) [.int k a,.int k b] H=some (.bool<|decide<|a<=b):=Xg
def Po(k:IntKind)(a b:Int):aG (.bin .gtr) [.int k a,.int k b] H=some (.bool<|decide<|b<a):=Xg
def Pn(k:IntKind)(a b:Int):aG (.bin .geq) [.int k a,.int k b] H=some (.bool<|decide<|b<=a):=Xg
def QC{k c:IntKind}{a b:Int}(h:0<=b):aG (.bin .shl) [.int k a,.int c b] H=some (.int k<|k.wrap<|a*2^(min b.toNat k.bits)):=by grind[aG,aZ,iE]
def QD{k c:IntKind}{a b:Int}(h:0<=b):aG (.bin .shr) [.int k a,.int c b] H=some (.int k<|a.fdiv<|2^(min b.toNat k.bits)):=by grind[aG,aZ,iE]
def Pk(neg a b:Bool):aG (.eqB neg) [.bool a,.bool b] H=some (.bool<|(a==b) != neg):=rfl
def Pj(neg:Bool)(a:XN)(xs ys:Array Value):aG (.eqA neg a) [.agg xs,.agg ys] H=(aN a xs.toList ys.toList).map λb=>.bool<|b != neg:=rfl
def LJ(neg:Bool)(l c l' c':Nat):aG (.eqN neg) [.slice none l c,.slice none l' c'] H=some (.bool<|true != neg):=rfl
def LK(neg:Bool)(a:Addr)(l c l' c':Nat):aG (.eqN neg) [.slice (some a) l c,.slice none l' c'] H=some (.bool<|false != neg):=rfl
def Pz(b:Bool):aG (.un .not) [.bool b] H=some (.bool !b):=rfl
def Px(k:IntKind)(n:Int):aG (.un .neg) [.int k n] H=some (.int k<|k.wrap<|0-n):=rfl
def Ph(k a:IntKind)(n:Int):aG (.cvt k) [.int a n] H=some (.int k<|k.wrap n):=rfl
def LH(s:ByteArray):aG .cvtS [.string s] H=some (.string s):=rfl
def Eg(a:Addr):aG .nilChk [.pointer<|some a] H=some (.pointer<|some a):=rfl
def BR(f:FuncId)(x y:Array Value):aG .nilChk [.func (.func f) x y] H=some (.func (.func f) x y):=rfl
def IX(a i o:Nat):aG (.fAddr a) [.pointer<|some ⟨i,o,none⟩] H=some (.pointer<|some ⟨i,o+a,none⟩):=rfl
def LL(a n:Nat)(b:Array Value):aG (.fld a n false) [.agg b] H=b[a]?:=rfl
def LM{a n:Nat}{b:Array Value}(h:a+n<=b.size):aG (.fld a n true) [.agg b] H=some (.agg<|b.extract a<|a+n):=Yd
theorem zl{sz b o l c:Nat}{sp:Option Nat}{k:IntKind}{i:Int}(a:0<=i)(d:i<l):aG (.iAddr sz) [.slice (some ⟨b,o,sp⟩) l c,.int k i] H=some (.pointer<|some ⟨b,o+i.toNat*sz,none⟩):=Yd
def Ef{len sz b o:Nat}{k:IntKind}{i:Int}(a:0<=i)(c:i<len):aG (.iAddrA len sz) [.pointer<|some ⟨b,o,none⟩,.int k i] H=some (.pointer<|some ⟨b,o+i.toNat*sz,none⟩):=Yd
def LN{len sz:Nat}{a:Array Value}{k:IntKind}{i:Int}(b:0<=i)(c:i<len):aG (.idx len sz false) [.agg a,.int k i] H=a[i.toNat*sz]?:=Yd
def LO{len sz:Nat}{a:Array Value}{k:IntKind}{i:Int}(b:0<=i)(c:i<len)(d:i.toNat*sz+sz<=a.size):aG (.idx len sz true) [.agg a,.int k i] H=some (.agg<|a.extract (i.toNat*sz)<|i.toNat*sz+sz):=Yd
def Pp(n b o:Nat):aG (.ld n false) [.pointer<|some ⟨b,o,none⟩] H=H.at b o:=by grind[aG,Heap.cells,Heap.at,List.head?_take,List.head?_drop]
def LR(n b o:Nat):aG (.ld n true) [.pointer<|some ⟨b,o,none⟩] H=match H.get b with|some c=>(if o+n<=c.length then some (.agg ((c.drop o).take n).toArray) else none)|none=>none:=by grind[aG,Heap.cells]
def Pq(a:Option Addr)(n c:Nat):aG .len [.slice a n c] H=some (.int .i64 n):=rfl
def LU(s:ByteArray):aG .lenS [.string s] H=some (.int .i64 s.size):=rfl
def LS(n:Nat)(x:Value):aG (.lenC n) [x] H=some (.int .i64 n):=rfl
def Pm(i:Nat)(vs:Array Value):aG (.ext i) [.tuple vs] H=vs[i]?:=rfl
theorem zk(b:XV)(a:List<|Nat×Nat)(vs:XV):aG (.build b a) vs H=(buildL b a vs).map λl=>.agg l.toArray:=by simp[aG]
def Pu(f:FuncId)(n:Nat)(vs:XV):aG (.mkF f n) vs H=some (.func (.func f) (vs.take n).toArray (vs.drop n).toArray):=by simp[aG]
def Pv(t:TypeId)(x:Value):aG (.mkI t) [x] H=some (.iface t x):=rfl
def Sj(c:Bool)(a b:Value):aG .pk [.bool c,a,b] H=some (if c then a else b):=rfl
theorem I0(k c:IntKind)(a b:Int):aG (.minmax false) [.int k a,.int c b] H=some (.int k (if b<a then b else a)):=by rfl
theorem BQ(k c:IntKind)(a b:Int):aG (.minmax true) [.int k a,.int c b] H=some (.int k (if a<b then b else a)):=by rfl
end light
theorem wrap_i64{a:Int}(b:-9223372036854775808<=a)(c:a<=9223372036854775807):IntKind.i64.wrap a=a:=Xi
def Jn{a:Int}(b:0<=a)(c:a<=18446744073709551615):IntKind.u64.wrap a=a:=Xi
def M0{a:Int}(b:0<=a)(c:a<=255):IntKind.u8.wrap a=a:=Xi
theorem pn{a:Int}(b:0<=a)(c:a<=4294967295):IntKind.u32.wrap a=a:=Xi
section exprs
variable {S:XV}{H:Heap}
def wY(c a b:Option XV):Option XV:=match c with|some [.bool true]=>a|some [.bool false]=>b|_=>none
def SR(c a b:E):ev S H (.pick c a b)=wY (ev S H c) (ev S H a) (ev S H b):=rfl
def Ll(a b:Option XV):wY (some [.bool true]) a b=a:=rfl
def Lj(a b:Option XV):wY (some [.bool false]) a b=b:=rfl
def FA(t u:Bool):wY (some [.bool t]) (some [.bool u]) (some [.bool false])=some [.bool<|t&&u]:=by cases t<;>rfl
def Iq(t u:Bool):wY (some [.bool t]) (some [.bool true]) (some [.bool u])=some [.bool<|t || u]:=by cases t<;>rfl
def Lk(t:Bool)(k:IntKind)(x y:Int):wY (some [.bool t]) (some [.int k x]) (some [.int k y])=some [.int k (if t=true then x else y)]:=by cases t<;>rfl
def vF{p:Prop}[Decidable p](x y:Value):(if p then some [x] else some [y])=some [if p then x else y]:=by split<;>rfl
def II{p:Prop}[Decidable p](x y:Bool):(if p then Value.bool x else Value.bool y)=Value.bool (if p then x else y):=by split<;>rfl
def Ks{p:Prop}[Decidable p](k:IntKind)(x y:Int):(if p then Value.int k x else Value.int k y)=Value.int k (if p then x else y):=by split<;>rfl
end exprs
def vN{cp:Wl}{lo:Nat}{l:List<|Nat×E}{b:List E}{dst:Option Nat}{o:HOp}{a:E}{Q:cF}{S:XV}{H:Heap}{vs:List<|Nat×Value}{xs:XV}{v:Value}{H':Heap}(c:o.isCall=false)(h:evSets S H l=some vs)(f:evChk S H b=true)(e:ev S H a=some xs)
  (i:bh lo o xs H=some (v,H')) {d:XV} (g:setD (setAll S vs) dst v=d) (k:Q .normal d H'):wpS cp lo (.hv l b [] dst o a) Q S H:=by
 apply yk h f e;cases o
 all_goals grind[HOp.isCall,wpH]
section heavy
variable {lo:Nat}{H:Heap}
def Hw(z:XV):bh lo (.alloc z) [] H=some (.pointer<|some ⟨H.length,0,none⟩,H++[some z]):=rfl
def P2(v:Value):bh lo .box [v] H=some (.pointer<|some ⟨H.length,0,none⟩,H++[some v.cells.toList]):=rfl
def Kb{z:XV}{a b:IntKind}{l c:Int}(h:0<=l/\l<=c/\c<=4294967296):bh lo (.mkSl z) [.int a l,.int b c] H=some (.slice (some ⟨H.length,0,none⟩) l.toNat c.toNat,H++[some<|bK z c.toNat]):=by grind[cT,bh,hsem]
theorem Hy(z:XV)(len:Nat)(a:XN)(vs:XV):bh lo (.bSl z len a) vs H=(buildL (bK z len) (a.map λi=>(i*z.length,z.length)) vs).map λl=>(.slice (some ⟨H.length,0,none⟩) len len,H++[some l]):=by rfl
theorem IA{n b o:Nat}{v:Value}(h:lo<=b):bh lo (.st n) [.pointer<|some ⟨b,o,none⟩,v] H=if v.cells.size=n/\oneCells v.cells.toList=true then(match H.get b with|some c=>(if o+v.cells.toList.length<=c.length then some (undef,H.set b<|some<|putCells c o v.cells.toList) else none)|none=>none) else none:=by grind[bh,hsem,Heap.put]
def qN{b o:Nat}{v:Value}(h:lo<=b)(d:v.cells=#[v])(a:v.oneCell'=true):bh lo (.st 1) [.pointer<|some ⟨b,o,none⟩,v] H=(match H.get b with|some c=>(if o<c.length then some (undef,H.set b<|some<|c.set o v) else none)|none=>none):=by grind[IA,oneCells,yK]
end heavy
section control
variable {cp:Wl}{lo:Nat}
def So(M:XV->Heap->Prop):cF:=λex S H=>match ex with | .normal=>M S H|_=>False
def QO{M:XV->Heap->Prop}{S:XV}{H:Heap}:So M .normal S H=M S H:=rfl
def pz{a b:Stm}{Q:cF}{S:XV}{H:Heap}(M:XV->Heap->Prop)(e:wpS cp lo a (So M) S H)(f:∀c H',M c H'->wpS cp lo b Q c H'):wpS cp lo a (AU cp lo b Q) S H:=
 e.mono λd S H h=>by
  cases d with
  | normal=>exact f S H h
  | exit i=>exact h.elim
  | ret=>exact h.elim
def Ek(M:XV->Heap->Prop)(Q:cF):cF:=λex S H=>match ex with | .normal=>M S H|ex=>Q ex S H
def QP{M:XV->Heap->Prop}{Q:cF}{S:XV}{H:Heap}:Ek M Q .normal S H=M S H:=rfl
theorem fX{M:XV->Heap->Prop}{Q:cF}{i:Nat}{S:XV}{H:Heap}:Ek M Q (.exit i) S H=Q (.exit i) S H:=rfl
def QQ{M:XV->Heap->Prop}{Q:cF}{S:XV}{H:Heap}:Ek M Q .ret S H=Q .ret S H:=rfl
def kA{a b:Stm}{Q:cF}{S:XV}{H:Heap}(M:XV->Heap->Prop)(e:wpS cp lo a (Ek M Q) S H)(f:∀c H',M c H'->wpS cp lo b Q c H'):wpS cp lo a (AU cp lo b Q) S H:=
 e.mono λd S H h=>by
  cases d with
  | normal=>exact f S H h
  | exit i=>exact h
  | ret=>exact h
def ij{a b:Stm}{i:Nat}{Q:cF}{S:XV}{H:Heap}(M:XV->Heap->Prop)(g:wpS cp lo a (kP i<|Ek M Q) S H)(d:∀c H',M c H'->wpS cp lo b Q c H'):wpS cp lo a (kP i<|AU cp lo b Q) S H:=
 g.mono λf S H h=>by
  cases f with
  | normal=>exact d S H h
  | exit j=>
   simp[ot]at h ⊢;split at h
   next e=>rw[if_pos e];exact d S H h
   next e=>rw[if_neg e];exact h
  | ret=>exact h
end control
def fM(l:XI):XV:=l.map<|.int .i64
def zY(l:XI):(fM l).length=l.length:=by simp[fM]
def Km{l:XI}{i:Nat}(h:i<l.length):(fM l)[i]?=some (.int .i64<|l.getD i 0):=by grind[fM]
def IE(l:XI)(i:Nat)(v:Int):(fM l).set i (.int .i64 v)=fM (l.set i v):=by simp[fM]
def EX(l:XI)(n:Nat):(fM l).take n=fM (l.take n):=by simp[fM]
def EU(l:XI)(n:Nat):(fM l).drop n=fM (l.drop n):=by simp[fM]
def EW(l:XI):oneCells (fM l)=true:=by grind[fM,oneCells,Value.oneCell']
def Fc(n:Nat):bK [.int .i64 0] n=fM (List.replicate n 0):=by simp_all[bK,fM]
def im(l:List Bool):XV:=l.map .bool
def Dw(l:List Bool):(im l).length=l.length:=by simp[im]
def GJ{l:List Bool}{i:Nat}(h:i<l.length):(im l)[i]?=some (.bool<|l.getD i false):=by grind[im]
def Dx(l:List Bool)(i:Nat)(v:Bool):(im l).set i (.bool v)=im (l.set i v):=by simp[im]
def CD(n:Nat):bK [.bool false] n=im (List.replicate n false):=by simp_all[bK,im]
def yD:oneCells []=true:=rfl
def vI(v:Value)(l:XV):oneCells (v::l)=(v.oneCell'&&oneCells l):=rfl
def yC(l m:XV):oneCells (l++m)=(oneCells l&&oneCells m):=by simp[oneCells]
def Al(l:List Bool):oneCells (im l)=true:=by grind[im,oneCells,Value.oneCell']
def B9(c vs:XV):putCells c 0 vs=vs++c.drop vs.length:=XM
def Ba(a:Value)(c:XV)(o:Nat)(vs:XV):putCells (a::c) (o+1) vs=a::putCells c o vs:=by simp[putCells,Nat.add_right_comm]
def QX(k:IntKind)(n:Int):(Value.int k n).oneCell'=true:=rfl
def Lb(b:Bool):(Value.bool b).oneCell'=true:=rfl
def QZ(s:ByteArray):(Value.string s).oneCell'=true:=rfl
def QY(a:Option Addr):(Value.pointer a).oneCell'=true:=rfl
def Sq(a:Option Addr)(n m:Nat):(Value.slice a n m).oneCell'=true:=rfl
def contig:Nat->List (Nat×Nat)->Nat->Bool
 | off,[],n=>off==n
 | off,(o,s)::r,n=>o==off&&contig (off+s) r n
def sizesOK:List (Nat×Nat)->XV->Bool
 | [],[]=>true
 | (_,s)::r,v::vs=>v.cells.size==s&&sizesOK r vs
 | _,_=>false
theorem mJ:∀(d:List<|Nat×Nat) (vs c b:XV),contig c.length d (c.length+b.length)=true->sizesOK d vs=true->buildL (c++b) d vs=some (c++vs.flatMap (λv=>v.cells.toList))
 | [],[],c,b,h,_=>by
  grind[contig,buildL]
 | [],_::_,_,_,_,h=>by grind[sizesOK]
 | _::_,[],_,_,_,h=>by grind[sizesOK]
 | (o,s)::r,v::vs,c,b,h,e=>by
  simp[contig,ac₀,beq_iff_eq]at h;simp[sizesOK,ac₀,beq_iff_eq]at e;obtain⟨rfl,h⟩:=h;have f:s<=b.length:=by
   have:∀(r:List<|Nat×Nat) (a n:Nat),contig a r n=true->a<=n:=by
    intro r
    induction r with
    | nil=>grind[contig]
    | cons x r i=>
     grind[contig]
   grind
  have g:putCells (c++b) c.length v.cells.toList=(c++v.cells.toList)++b.drop s:=by
   grind[putCells,List.drop_append,List.drop_of_length_le]
  simp only[buildL];rw[if_pos ⟨e.1,Wr⟩,g,mJ r vs (c++v.cells.toList) (b.drop s) ?_ e.2]
  all_goals grind
theorem Ed{H:Heap}{b:XV}{a:List<|Nat×Nat}{vs:XV}(h:contig 0 a b.length=true)(c:sizesOK a vs=true):aG (.build b a) vs H=some (.agg (vs.flatMap λv=>v.cells.toList).toArray):=by
 have:=mJ a vs [] b Wy c
 grind[zk]
def Ee{H:Heap}(b:XV)(a:List<|Nat×Nat)(vs:XV):aG (.build b a) vs H=match contig 0 a b.length&&sizesOK a vs with|true=>some (.agg (vs.flatMap λv=>v.cells.toList).toArray)|false=>(buildL b a vs).map λl=>.agg l.toArray:=by grind[Ed,zk]
theorem K0{lo:Nat}{H:Heap}{z:XV}{len:Nat}{a:XN}{vs:XV}(h:contig 0 (a.map λi=>(i*z.length,z.length)) (bK z len).length=true)(b:sizesOK (a.map λi=>(i*z.length,z.length)) vs=true):bh lo (.bSl z len a) vs H=some (.slice (some ⟨H.length,0,none⟩) len len,H++[some<|vs.flatMap λv=>v.cells.toList]):=by
 have:=mJ _ vs [] (bK z len) Wy b
 grind[Hy]
theorem Fe(z:XV)(n:Nat):(bK z n).length=n*z.length:=by simp_all[bK]
def Ka{lo:Nat}{H:Heap}(z:XV)(len:Nat)(a:XN)(vs:XV):bh lo (.bSl z len a) vs H =
  match contig 0 (a.map λi=>(i*z.length,z.length)) (len*z.length)&&sizesOK (a.map λi=>(i*z.length,z.length)) vs with
  | true=>some (.slice (some ⟨H.length,0,none⟩) len len,H++[some<|vs.flatMap λv=>v.cells.toList])
  | false=>(buildL (bK z len) (a.map λi=>(i*z.length,z.length)) vs).map λl=>(.slice (some ⟨H.length,0,none⟩) len len,H++[some l]):=by grind[K0,Fe,Hy]
section heavy
variable {lo:Nat}{H:Heap}
def Ke{b o:Nat}{k:IntKind}{n:Int}(h:lo<=b):bh lo (.st 1) [.pointer<|some ⟨b,o,none⟩,.int k n] H=(match H.get b with|some c=>(if o<c.length then some (undef,H.set b<|some<|c.set o<|.int k n) else none)|none=>none):=qN h rfl rfl
def Kd{b o:Nat}{n:Bool}(h:lo<=b):bh lo (.st 1) [.pointer<|some ⟨b,o,none⟩,.bool n] H=(match H.get b with|some c=>(if o<c.length then some (undef,H.set b<|some<|c.set o<|.bool n) else none)|none=>none):=qN h rfl rfl
def Kg{b o:Nat}{a:Option Addr}{n m:Nat}(h:lo<=b):bh lo (.st 1) [.pointer<|some ⟨b,o,none⟩,.slice a n m] H=(match H.get b with|some c=>(if o<c.length then some (undef,H.set b<|some<|c.set o<|.slice a n m) else none)|none=>none):=qN h rfl rfl
def P3{n b o:Nat}{v:Value}(h:lo<=b)(_:1<n):bh lo (.st n) [.pointer<|some ⟨b,o,none⟩,v] H=if v.cells.size=n/\oneCells v.cells.toList=true then(match H.get b with|some c=>(if o+v.cells.toList.length<=c.length then some (undef,H.set b<|some<|putCells c o v.cells.toList) else none)|none=>none) else none:=IA h
def Kf{b o:Nat}{a:Option Addr}(h:lo<=b):bh lo (.st 1) [.pointer<|some ⟨b,o,none⟩,.pointer a] H=(match H.get b with|some c=>(if o<c.length then some (undef,H.set b<|some<|c.set o<|.pointer a) else none)|none=>none):=qN h rfl rfl
def Kh{b o:Nat}{s:ByteArray}(h:lo<=b):bh lo (.st 1) [.pointer<|some ⟨b,o,none⟩,.string s] H=(match H.get b with|some c=>(if o<c.length then some (undef,H.set b<|some<|c.set o<|.string s) else none)|none=>none):=qN h rfl rfl
def tk{sz:Nat}{z:XV}{i o n m:Nat}{sp:Option Nat}(a:0<n/\n<=4294967296):bh lo (.app sz z) [.slice none 0 0,.slice (some ⟨i,o,sp⟩) n m] H =
  (match H.get i with|some c=>(if o+n*sz<=c.length/\oneCells ((c.drop o).take<|n*sz)=true then some (.slice (some ⟨H.length,0,some sz⟩) n n,H++[some<|(c.drop o).take<|n*sz]) else none)|none=>none):=by grind[bh,hsem,Heap.cells,aV,cT]
def wG{sz b o len:Nat}{z:XV}{i o' n m:Nat}{sp:Option Nat}(a:lo<=b)(e:0<n/\len+n<=4294967296):bh lo (.app sz z) [.slice (some ⟨b,o,some sz⟩) len len,.slice (some ⟨i,o',sp⟩) n m] H =
  (match H.get i with|some c=>(if o'+n*sz<=c.length/\oneCells ((c.drop o').take<|n*sz)=true then(match H.get b with|some d=>(if o+len*sz<=d.length then some (.slice (some ⟨H.length,0,some sz⟩) (len+n)<|len+n,H.set b none++[some<|(d.drop o).take (len*sz)++(c.drop o').take (n*sz)]) else none)|none=>none) else none)|none=>none):=by
 simp[bh,hsem]
 grind[aV,cT,Heap.cells]
theorem Hz{sz d o n c a o' m c':Nat}{sp b:Option Nat}(f:lo<=d):bh lo (.cpy sz) [.slice (some ⟨d,o,sp⟩) n c,.slice (some ⟨a,o',b⟩) m c'] H =
  (match H.get a with|some ca=>(if o'+min m n*sz<=ca.length/\oneCells ((ca.drop o').take<|min m n*sz)=true then(match H.get d with|some e=>(if o+min m n*sz<=e.length then some (.int .i64 (min m n:Nat),H.set d<|some<|putCells e o<|(ca.drop o').take<|min m n*sz) else none)|none=>none) else none)|none=>none):=by
 simp[bh,hsem,Heap.cells]
 grind[Heap.put]
def vK(l m:XI)(o:Nat):putCells (fM l) o (fM m)=fM (l.take o++(m++l.drop (o+m.length))):=by simp[putCells,fM]
def QE{len sz b o:Nat}{args:XV}{a c d:Bool}:aG (.slA len sz a c d) (.pointer (some ⟨b,o,none⟩)::args) H=(bounds len len a c d args).map λ(l,h,m)=>.slice (some ⟨b,if m=l then o else o+l*sz,none⟩) (h-l)<|m-l:=by rfl
theorem CJ{len a:Nat}{k:IntKind}{h:Int}(b:0<=h)(c:h<=a):bounds len a false true false [.int k h]=some (0,h.toNat,a):=by grind[bounds,toB]
theorem CL{len a:Nat}{k:IntKind}{l:Int}(b:0<=l)(c:l<=len):bounds len a true false false [.int k l]=some (l.toNat,len,a):=by grind[bounds,toB]
theorem rq{len a:Nat}{k b:IntKind}{l h:Int}(c:0<=l)(d:l<=h)(e:h<=a):bounds len a true true false [.int k l,.int b h]=some (l.toNat,h.toNat,a):=by grind[bounds,toB,List.head?_cons,List.tail_cons]
def SB{len a:Nat}:bounds len a false false false []=some (0,len,a):=rfl
theorem xp{sz b o len a:Nat}{args:XV}{c d e:Bool}:aG (.sl sz c d e) (.slice (some ⟨b,o,none⟩) len a::args) H=(bounds len a c d e args).map λ(l,h,m)=>.slice (some ⟨b,if m=l then o else o+l*sz,none⟩) (h-l)<|m-l:=by rfl
def QF{sz len a:Nat}{args:XV}{b c d:Bool}:aG (.sl sz b c d) (.slice none len a::args) H=(bounds len a b c d args).map λ(l,h,m)=>.slice none (h-l)<|m-l:=by rfl
theorem xn{sz b o len a:Nat}{args:XV}{c d:Bool}:aG (.sl sz c d false) (.slice (some ⟨b,o,some sz⟩) len a::args) H=(bounds len a c d false args).map λ(l,h,m)=>.slice (some ⟨b,o+l*sz,some sz⟩) (h-l)<|m-l:=Yd
end heavy
def Jd(c:Array Value):(Value.agg c).cells=c:=rfl
def Je(k:IntKind)(n:Int):(Value.int k n).cells=#[.int k n]:=rfl
def Dh(b:Bool):(Value.bool b).cells=#[.bool b]:=rfl
def Jg(s:ByteArray):(Value.string s).cells=#[.string s]:=rfl
def Jf(a:Option Addr):(Value.pointer a).cells=#[.pointer a]:=rfl
def OR(a:Option Addr)(n m:Nat):(Value.slice a n m).cells=#[.slice a n m]:=rfl
def U3(f:Fn)(a b:Array Value):(Value.func f a b).cells=#[.func f a b]:=rfl
def evB:=zzi @ev.eq_1<|zzi @ev.eq_2<|zzi @ev.eq_3<|zzi @ev.eq_4<|zzi @ev.eq_5<|zzi @SR<|zzi @Ll<|zzi @Lj<|zzi @FA<|zzi @Iq<|zzi @Lk<|zzi @ev1.eq_1<|zzi @evSets.eq_1<|zzi @evSets.eq_2<|zzi @evChk.eq_1<|zzi @evChk.eq_2<|zzi @evList.eq_1<|zzi @evList.eq_2<|zzi @holds.eq_1<|zzi @holds.eq_2<|zzi @setAll.eq_1<|zzi @setAll.eq_2<|zzi @setD.eq_1<|zzi @setD.eq_2<|zzi @vF<|zzi @II<|zzi @Ks<|zzi @if_true.{1} (zzi @if_false.{1} (zzi @Bool.false_eq_true<|zzi @decide_eq_true_eq<|zzi @decide_true<|zzi @decide_false<|zzi @not_true<|zzi @not_false_iff<|zzi @Option.isSome_some.{0} (zzi @Bool.and_true<|zzi @Bool.and_self<|zzi @wrap_i64<|zzi @if_pos.{1} (zzi @if_neg.{1} (zzi @and_self<|zzi @and_true<|zzi @true_and<|zzi @Hw<|zzi @P2<|zzi @Kb<|zzi @Ka<|zzi @contig.eq_1<|zzi @contig.eq_2<|zzi @sizesOK.eq_1<|zzi @sizesOK.eq_2<|zzi @beq_self_eq_true.{0} (zzi @Nat.zero_mul<|zzi @Bool.true_and<|zzi @Bool.false_and<|zzi @Ke<|zzi @Kd<|zzi @Kg<|zzi @Kf<|zzi @Kh<|zzi @P3<|zzi @tk<|zzi @Hz<|zzi @vK<|zzi @wG<|zzi @zY<|zzi @Km<|zzi @IE<|zzi @EW<|zzi @EX<|zzi @EU<|zzi @Fc<|zzi @Dw<|zzi @GJ<|zzi @Dx<|zzi @CD<|zzi @QE<|zzi @xp<|zzi @QF<|zzi @xn<|zzi @CJ<|zzi @CL<|zzi @rq<|zzi @SB<|zzi @yD<|zzi @vI<|zzi @yC<|zzi @Al<|zzi @QX<|zzi @Lb<|zzi @QZ<|zzi @QY<|zzi @Sq<|zzi @Int.toNat_natCast<|zzi @List.all_cons.{0} (zzi @List.all_nil.{0} (zzi @List.toList_toArray.{0} (zzi @List.map_cons.{0,0} (zzi @List.map_nil.{0,0} (zzi @List.getElem?_cons_zero.{0} (zzi @List.getElem?_cons_succ.{0} (zzi @List.cons_append.{0} (zzi @List.nil_append.{0} (zzi @List.append_nil.{0} (zzi @List.set_cons_zero.{0} (zzi @List.set_cons_succ.{0} (zzi @List.replicate_succ.{0} (zzi @List.replicate_zero.{0} (zzi @List.length_cons.{0} (zzi @List.length_nil.{0} (zzi @Sg<|zzi @Pf<|zzi @QH<|zzi @Pw<|zzi @QA<|zzi @QB<|zzi @Pg<|zzi @Si<|zzi @QI<|zzi @Pl<|zzi @Py<|zzi @Pt<|zzi @Ps<|zzi @Po<|zzi @Pn<|zzi @QC<|zzi @QD<|zzi @Pk<|zzi @Pj<|zzi @LJ<|zzi @LK<|zzi @Pz<|zzi @Px<|zzi @Ph<|zzi @LH<|zzi @Eg<|zzi @BR<|zzi @IX<|zzi @LL<|zzi @LM<|zzi @zl<|zzi @Ef<|zzi @LN<|zzi @LO<|zzi @Pp<|zzi @LR<|zzi @Pq<|zzi @LU<|zzi @LS<|zzi @Pm<|zzi @Ee<|zzi @List.flatMap_cons.{0,0} (zzi @List.flatMap_nil.{0,0} (zzi @Pu<|zzi @Pv<|zzi @Sj<|zzi @I0<|zzi @BQ<|zzi @Heap.at.eq_1<|zzi @aI<|zzi @bI<|zzi @EN<|zzi @EO<|zzi @fT<|zzi @aE<|zzi @aQ<|zzi @JR<|zzi @JS<|zzi @Bn<|zzi @List.append_assoc.{0} (zzi @List.length_append.{0} (zzi @List.length_set.{0} (zzi @List.getElem?_toArray.{0} (zzi @List.size_toArray.{0} (zzi @Option.map_some.{0,0} (zzi @Option.some.injEq.{0} (zzi @buildL.eq_1<|zzi @buildL.eq_2<|zzi @Jd<|zzi @Je<|zzi @Dh<|zzi @Jg<|zzi @Jf<|zzi @OR<|zzi @U3<|zzi @B9<|zzi @Ba<|zzi @List.length_take.{0} (zzi @List.length_drop.{0} (zzi @List.length_replicate.{0} (zzi @Jn<|zzi @M0<|zzi @List.take_zero.{0} (zzi @List.take_succ_cons.{0} (zzi @List.drop_zero.{0} (zzi @List.drop_succ_cons.{0} (zzi @List.take_nil.{0} (zzi @List.drop_nil.{0} (zzi @Nat.zero_add<|zzi @Nat.add_zero<|zzi @Nat.mul_one<|zzi @Nat.one_mul @Nat.sub_zero))))))))))))))))))))))))))))))))))))))))
def Se:=zzi @List.length_set.{0} (zzi @List.length_append.{0} (zzi @List.length_cons.{0} @List.length_nil.{0}))
def dO{P:Prop}(h:P:=by first|omega|(simp only[Se];omega)):P:=h
section
variable {cp:Wl}{lo:Nat}
def aC:=zzi @Ai<|zzi @Fs<|zzi @CH<|zzi @Jx<|zzi @O0<|zzi @JQ<|zzi @fH<|zzi @Qv<|zzi @GH<|zzi @GI<|zzi @ot<|zzi @dt<|zzi @LD<|zzi @QO<|zzi @QP<|zzi @fX<|zzi @QQ<|zzi @if_true.{1} (zzi @if_false.{1} (zzi @setD.eq_1<|zzi @setD.eq_2<|zzi @setAll.eq_1<|zzi @setAll.eq_2<|zzi @List.set_cons_zero.{0} (zzi @List.set_cons_succ.{0} (zzi @Jd<|zzi @Je<|zzi @Dh<|zzi @Jg<|zzi @Jf @OR))))
end
end Go.Abs
