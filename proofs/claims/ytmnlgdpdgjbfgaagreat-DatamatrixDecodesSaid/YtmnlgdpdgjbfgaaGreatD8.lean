/- Lemmas. -/
import Derived.Test.YtmnlgdpdgjbfgaaGreatD7
import Derived.ProofKit
import Derived.OpenShut
import Derived.Carry
import Derived.JoinedCond
import Derived.WalkKit
set_option linter.all false
namespace Go.Abs
def CLe(callA callB:dm):Prop:=∀lo f args H r,callA lo f args H=some r->callB lo f args H=some r
def CLeR(callA callB:CallR):Prop:=∀lo f args H r,callA lo f args H=some r->callB lo f args H=some r
theorem CLeR.toRet{a b:CallR}(h:CLeR a b):CLe a.ret b.ret:=fun lo f args H (v,H') e=>qI (h lo f args H _ (mh e))
theorem CLeR.toPan{a b:CallR}(h:CLeR a b):CLe a.pan b.pan:=fun lo f args H (v,H') e=>xS (h lo f args H _ (qp e))
theorem BI{a b:CallR}(hc:CLeR a b){lo:Nat}{o:HOp}{vs:List Value}{H:Heap}{r:Value×Heap}(h:cm a lo o vs H=some r):cm b lo o vs H=some r:=by
 unfold cm at h;split at h
 ·exact hc.toPan _ _ _ _ _ h
 ·exact h
 ·simp at h
theorem Fo{callA callB:dm}(hc:CLe callA callB){lo:Nat}{o:HOp}{vs:List Value}{H:Heap}{r:Value×Heap}(h:hsem callA lo o vs H=some r):hsem callB lo o vs H=some r:=by
 by_cases hcall:o.isCall=true
 ·cases o<;>simp[HOp.isCall]at hcall
  all_goals
   cases vs with
   | nil=>simp[hsem]at h
   | cons a r=>
    cases a<;>try (simp[hsem]at h;done)
    rename_i fn first cap
    cases fn<;>try (simp[hsem]at h;done)
    simp only[hsem]at h ⊢;exact hc _ _ _ _ _ h
 ·have hf:o.isCall=false:=by simpa using hcall
  rw[vj hf]at h ⊢;exact h
theorem zH{f g:List Value->Heap->Out}(hfg:∀S H r,f S H=some r->g S H=some r):∀(n m:Nat),n<=m->∀S H r,iter f n S H=some r->iter g m S H=some r
 | 0,_,_,_,_,_,h=>by grind[iter]
 | n+1,0,hm,_,_,_,_=>by omega
 | n+1,m+1,hm,S,H,r,h=>by
  simp only[iter]at h ⊢;split at h
  ·rename_i S1 H1 h1
   rw[hfg _ _ _ h1];exact zH hfg n m byO S1 H1 r h
  grind
theorem DK{f g:List Value->Heap->Out}(hfg:∀S H r,f S H=some r->g S H=some r):∀(n m:Nat),n<=m->∀(x r:Ex×List Value×Heap),hop f n (some x)=some r->hop g m (some x)=some r
 | 0,m,_,(x,S,H),r,h=>by
  cases x with
  | exit j=>
   simp only[hop]at h;split at h
   ·simp at h
   ·rename_i hj
    cases m<;>simp only[hop,if_neg hj]<;>exact h
  | normal=>cases m<;>exact h
  | ret=>cases m<;>exact h
 | n+1,0,hm,x,r,h=>by omega
 | n+1,m+1,hm,(x,S,H),r,h=>by
  cases x with
  | exit j=>
   simp only[hop]at h ⊢;split at h
   ·rename_i hj
    rw[if_pos hj];cases hf:f (.int .i64 ((j-bC:Nat):Int)::S) H with
    | none=>grind[hop]
    | some o1=>
     rw[hf]at h;rw[hfg _ _ _ hf];exact DK hfg n m byO o1 r h
   grind
  | normal=>exact h
  | ret=>exact h
theorem cM{callA callB:CallR}(hc:CLeR callA callB){lo n m:Nat}(hn:n<=m):∀(s:Stm) (S:List Value) (H:Heap) r,exec callA lo n s S H=some r->exec callB lo m s S H=some r
 | .skip,S,H,r,h=>h
 | .exit i,S,H,r,h=>h
 | .ret,S,H,r,h=>h
 | .sets l chk,S,H,r,h=>by assumption
 | .alt l s q,S,H,r,h=>by
  simp only[exec]at h;split at h
  ·simp only[exec]
   split at h
   ·rename_i ht
    rw[if_pos ht];exact cM hc hn s _ H r h
   ·rename_i ht
    rw[if_neg ht];exact cM hc hn q _ H r h
  ·simp at h
 | .scope b alts,S,H,r,h=>by
  simp only[exec]at h ⊢;cases hb:exec callA lo n b S H with
  | none=>grind[hop]
  | some o1=>
   rw[hb]at h;rw[cM hc hn b S H o1 hb];exact DK (fun S H r h=>cM hc hn alts S H r h) n m hn o1 r h
 | .dist a b,S,H,r,h=>by assumption
 | .hv l chk pc dst op a,S,H,r,h=>by
  simp only[exec]at h ⊢;split at h
  ·split at h
   ·rename_i hck
    simp only[hck,if_true];split at h
    ·split at h
     ·split at h
      ·rename_i hv
       rw[Fo hc.toRet hv];exact h
      grind[BI,yA]
     ·simp at h
    all_goals omega
   ·simp at h
  ·simp at h
 | .seq a b,S,H,r,h=>by
  simp only[exec]at h ⊢;split at h
  ·rename_i S1 H1 h1
   rw[cM hc hn a _ _ _ h1];exact cM hc hn b _ _ _ h
  ·rw[cM hc hn a _ _ _ h]
   simp_all
 | .cond c a b,S,H,r,h=>by
  simp only[exec]at h ⊢;split at h
  ·exact cM hc hn a _ _ _ h
  ·exact cM hc hn b _ _ _ h
  ·simp at h
 | .block i b,S,H,r,h=>by
  simp only[exec]at h ⊢;split at h
  ·rename_i j S1 H1 h1
   rw[cM hc hn b _ _ _ h1];exact h
  ·rw[cM hc hn b _ _ _ h]
   simp_all
 | .loop b,S,H,r,h=>by
  exact zH (fun S H r h=>cM hc hn b S H r h) n m hn S H r h
theorem zl{cp:FuncId->Option CF}{a b:CallR}(hc:CLeR a b){lo n m:Nat}(hn:n<=m){g:FuncId}{args:List Value}{rv:Value}{H H':Heap}(h:mF cp a lo n g args rv H=some H'):mF cp b lo m g args rv H=some H':=by
 unfold mF at h ⊢;split at h<;>try (simp at h)
 grind[cM]
theorem zk{cp:FuncId->Option CF}{a b:CallR}(hc:CLeR a b){lo n m j:Nat}(hn:n<=m){res:List E}{body mid rest:Stm}{S:List Value}{H:Heap}{r:(Value ⊕ Value)×Heap}(h:kA cp a lo n res body mid j rest S H=some r):kA cp b lo m res body mid j rest S H=some r:=by
 unfold kA at h;split at h
 ·grind[kA,cM]
 ·grind[kA,cM]
 ·rename_i hx
  simp only[kA,cM hc hn _ _ _ _ hx];split at h<;>try (simp at h;done)
  rename_i hm;simp only[cM hc hn _ _ _ _ hm];split at h<;>try (simp at h;done)
  grind[cM,zl]
 ·simp at h
theorem oM{cp:FuncId->Option CF}:∀{n m:Nat},n<=m->CLeR (run cp n) (run cp m)
 | 0,_,_=>fun _ _ _ _ _ h=>by simp[run]at h
 | n+1,0,hm=>by omega
 | n+1,m+1,hm=>fun lo f args H r h=>by
  simp only[run]at h ⊢;split at h
  ·split at h
   ·rename_i hl
    simp only[hl,if_true];split at h
    ·split at h
     ·rename_i S1 H1 h1
      rw[cM (oM byO) byO _ _ _ _ h1];exact h
     ·rename_i S1 H1 h1
      rw[cM (oM byO) byO _ _ _ _ h1];exact h
     ·rename_i j q S1 H1 h1
      rw[cM (oM byO) byO _ _ _ _ h1];exact h
     ·simp at h
    ·exact zk (oM byO) byO h
    ·simp at h
   ·simp at h
  ·simp at h
theorem A6{cp:FuncId->Option CF}{lo:Nat}{f:FuncId}{args:List Value}{H:Heap}{v:Value}{H':Heap}(n:Nat)(h:run cp n lo f args H=some (.inl v,H')){R:Value->Heap->Prop}(hR:R v H'):Ev cp lo f args H R:=
 ⟨n,v,H',fun _ hm=>oM hm _ _ _ _ _ h,hR⟩
def mv0(n:Nat):Mv:=⟨n,0,0,Nat.zero_le _,fun h=>by simp at h⟩
theorem JT(n i:Nat):(mv0 n).f i=n+i:=by simp[mv0,Mv.f]
theorem nF{cp:FuncId->Option CF}(hp:∀f cf,cp f=some cf->aI cf=true){f:FuncId}{args:List Value}(ha:args.all fO=true){v:Value}{H0:Heap}(n:Nat)(h:run cp n 0 f args []=some (.inl v,H0)){lo:Nat}{H:Heap}(hlo:lo<=H.length){R:Value->Heap->Prop}
  (hR:∀v' H',Sh (mv0 H.length) v v'->HSh (mv0 H.length) H0 H'->(∀i,i<H.length->H'[i]?=H[i]?)->R v' H'):Ev cp lo f args H R:=by
 have hargs:LSh (mv0 H.length) args args:=by
  refine⟨rfl,fun j x y hx hy=>?_⟩;rw[hx]at hy;cases hy;exact gF (List.all_eq_true.1 ha _ (List.mem_of_getElem? hx))
 obtain⟨v',B',h1,h2,h3⟩:=oN hp n 0 lo f args args [] H _ H0 ⟨Nat.le_refl _,by simp only[mv0];omega⟩ hargs ⟨by simp[mv0],fun i c hc=>by simp[Heap.get]at hc⟩ h;cases v' with
 | inr u=>exact h2.elim
 | inl v'=>
 exact A6 n h1 (hR v' B' h2 h3.sh h3.pre)
inductive Ty where
 | bool
 | int (k:IntKind)
 | str
 | rcd (l:List Ty)
 | arr (n:Nat) (e:Ty)
 | sl (e:Ty)
mutual
def Ty.size:Ty->Nat
 | .rcd l=>Ty.sizes l
 | .arr n e=>n*Ty.size e
 | _=>1
def Ty.sizes:List Ty->Nat
 | []=>0
 | t::r=>Ty.size t+Ty.sizes r
end
mutual
def Ty.flat:Ty->Bool
 | .rcd l=>Ty.flats l
 | .arr _ e=>Ty.flat e
 | .sl _=>false
 | _=>true
def Ty.flats:List Ty->Bool
 | []=>true
 | t::r=>Ty.flat t&&Ty.flats r
end
mutual
def Ty.shallow:Ty->Bool
 | .rcd l=>Ty.shallows l
 | .arr _ e=>Ty.flat e
 | .sl e=>Ty.flat e
 | _=>true
def Ty.shallows:List Ty->Bool
 | []=>true
 | t::r=>Ty.shallow t&&Ty.shallows r
end
def pC(P:Program)(g:TypeId->Option Ty):Nat->List Field->Option (List Ty)
 | _,[]=>some []
 | off,f::r=>match g f.type with
  | some ty=>if f.offset=off/\P.cellsOf f.type=ty.size then
    match pC P g (off+ty.size) r with
    | some l=>some (ty::l)
    | none=>none
   else none
  | none=>none
def iH(P:Program):Nat->TypeId->Option Ty
 | 0,_=>none
 | d+1,t=>match P.underlying t with
  | some .bool=>some .bool
  | some (.int k)=>some (.int k)
  | some .string=>some .str
  | some (.slice e)=>match iH P d e with
   | some ty=>if P.cellsOf e=ty.size/\0<ty.size then some (.sl ty) else none
   | none=>none
  | some (.struct fs)=>match pC P (iH P d) 0 fs.toList with
   | some l=>if P.cellsOf t=Ty.sizes l then some (.rcd l) else none
   | none=>none
  | some (.array n e)=>match iH P d e with
   | some ty=>if P.cellsOf e=ty.size/\P.cellsOf t=n*ty.size then some (.arr n ty) else none
   | none=>none
  | _=>none
def HasN(p:List Value->Prop):Nat->List Value->Prop
 | 0,vs=>vs=[]
 | n+1,vs=>∃a b,vs=a++b/\p a/\HasN p n b
mutual
def Has(B:Nat)(H:Heap):Ty->List Value->Prop
 | .bool,vs=>∃b,vs=[.bool b]
 | .int k,vs=>∃n,vs=[.int k n]/\k.min<=n/\n<=k.max
 | .str,vs=>∃s:ByteArray,vs=[.string s]/\s.size<=B
 | .rcd l,vs=>HasAll B H l vs
 | .arr n e,vs=>HasN (Has B H e) n vs
 | .sl e,vs=>vs=[.slice none 0 0]\/∃i len cap c,vs=[.slice (some ⟨i,0,none⟩) len cap]/\len<=cap/\cap<=B/\i<H.length/\H.get i=some c/\HasN (Has B H e) cap c
def HasAll(B:Nat)(H:Heap):List Ty->List Value->Prop
 | [],vs=>vs=[]
 | t::r,vs=>∃a b,vs=a++b/\Has B H t a/\HasAll B H r b
end
theorem HasN.mono{p q:List Value->Prop}(h:∀vs,p vs->q vs):∀(n:Nat) (vs:List Value),HasN p n vs->HasN q n vs
 | 0,_,e=>e
 | n+1,_,⟨a,b,e,h1,h2⟩=>⟨a,b,e,h _ h1,HasN.mono h n b h2⟩
def Longer(H H':Heap):Prop:=∃r,H'=H++r
theorem Longer.refl(H:Heap):Longer H H:=⟨[],by simp⟩
theorem Longer.trans{H H1 H2:Heap}(a:Longer H H1)(b:Longer H1 H2):Longer H H2:=by
 obtain⟨r,rfl⟩:=a;obtain⟨s,rfl⟩:=b;exact⟨r++s,by simp⟩
theorem Longer.get{H H':Heap}(h:Longer H H'){i:Nat}{c:List Value}(hc:H.get i=some c):H'.get i=some c:=by
 obtain⟨r,rfl⟩:=h
 grind[en]
theorem Longer.len{H H':Heap}(h:Longer H H'):H.length<=H'.length:=by
 obtain⟨r,rfl⟩:=h;simp
mutual
theorem Has.mono{B:Nat}{H H':Heap}(h:Longer H H'):∀(t:Ty) (vs:List Value),Has B H t vs->Has B H' t vs
 | .bool,_,e=>by simpa only[Has]using e
 | .int k,_,e=>by simpa only[Has]using e
 | .str,_,e=>by simpa only[Has]using e
 | .rcd l,vs,e=>by simp only[Has]at e ⊢;exact HasAll.mono h l vs e
 | .arr n e,vs,x=>by simp only[Has]at x ⊢;exact HasN.mono (fun vs=>Has.mono h e vs) n vs x
 | .sl e,vs,x=>by
  simp only[Has]at x ⊢;rcases x with x|⟨i,len,cap,c,h1,h2,h3,h4,h5,h6⟩
  ·exact .inl x
  ·exact .inr ⟨i,len,cap,c,h1,h2,h3,bc₀ h4 h.len,h.get h5,HasN.mono (fun vs=>Has.mono h e vs) cap c h6⟩
theorem HasAll.mono{B:Nat}{H H':Heap}(h:Longer H H'):∀(l:List Ty) (vs:List Value),HasAll B H l vs->HasAll B H' l vs
 | [],_,e=>by simpa only[HasAll]using e
 | t::r,vs,e=>by
  simp only[HasAll]at e ⊢;obtain⟨a,b,h1,h2,h3⟩:=e;exact⟨a,b,h1,Has.mono h t a h2,HasAll.mono h r b h3⟩
end
mutual
def Fits{X:Type}(B:Nat):DataW X->Prop
 | .lit (.string l)=>l.length<=B
 | .slice es sp=>es.length+sp.length<=B/\FitsAll B es/\FitsAll B sp
 | .agg ds=>FitsAll B ds
 | _=>True
def FitsAll{X:Type}(B:Nat):List (DataW X)->Prop
 | []=>True
 | d::r=>Fits B d/\FitsAll B r
end
theorem FitsAll.mem{X:Type}{B:Nat}:∀{l:List (DataW X)} {d:DataW X},FitsAll B l->d ∈ l->Fits B d
 | [],_,_,h=>by simp at h
 | x::r,d,h,hm=>by
  rcases List.mem_cons.1 hm with rfl|hm
  ·exact h.1
  ·exact FitsAll.mem h.2 hm
abbrev Small{X:Type}(B:Nat)(d:DataW X):Prop:=maxLen<=B\/Fits B d
section
variable {X:Type}{enc:TypeId×Value->X}{P:Program}{w:World}{B:Nat}
abbrev trd(enc:TypeId×Value->X)(P:Program)(w:World):=DataW.trod enc P w 0 (fun _=>true) true
theorem M7{k:IntKind}{n:Int}(h:(Lit.int k n).wf=true):k.min<=n/\n<=k.max:=by
 grind[Lit.wf]
structure FlatOK (B:Nat)(H:Heap)(ty:Ty)(cs:List Value):Prop where
 has:Has B H ty cs
 plain:cs.all bO=true
 len:cs.length=ty.size
theorem tq{p:List Value->Prop}(k:Nat):∀(n:Nat) (cs:List Value),cs.length=n*k->(∀i,i<n->p ((cs.drop (i*k)).take k))->HasN p n cs
 | 0,cs,hl,_=>by grind[HasN]
 | n+1,cs,hl,h=>by
  refine⟨cs.take k,cs.drop k,(List.take_append_drop k cs).symm,by simpa using h 0 byO,tq k n (cs.drop k) (by grind) (fun i hi=>?_)⟩
  grind[List.drop_drop]
theorem kt(k:Nat):∀(n:Nat) (cs:List Value),cs.length=n*k->(∀i,i<n->((cs.drop (i*k)).take k).all bO=true)->cs.all bO=true
 | 0,cs,hl,_=>by
  simp_all
 | n+1,cs,hl,h=>by
  have h1:(cs.take k).all bO=true:=by simpa using h 0 byO
  have h2:(cs.drop k).all bO=true:=kt k n (cs.drop k) (by grind) (fun i hi=>by
   grind[List.drop_drop])
  grind[List.take_append_drop]
theorem lU(H:Heap):∀(d:Nat) (t:TypeId) (ty:Ty) (fuel:Nat) (cs:List Value) (x:DataW X×List MemPlace),iH P d t=some ty->ty.flat=true->trd enc P w fuel t cs=some x->Small B x.1->FlatOK B H ty cs
 | 0,_,_,_,_,_,h,_,_,_=>by grind[iH]
 | d+1,t,ty,fuel,cs,x,hty,hf,hx,hB=>by
  simp only[iH]at hty;split at hty
  ·rename_i hu
   cases hty;obtain⟨b,rfl,rfl⟩:=DataW.trod_bool hu hx;exact⟨by grind[Has],rfl,rfl⟩
  ·rename_i k hu
   cases hty;obtain⟨n,rfl,rfl,hw⟩:=DataW.trod_int hu hx;exact⟨by simp_all[Has,M7],rfl,rfl⟩
  ·rename_i hu
   cases hty;obtain⟨s,rfl,rfl,hw⟩:=DataW.trod_string hu hx;refine⟨?_,rfl,rfl⟩;simp only[Has];refine⟨s,rfl,?_⟩;rcases hB with hB|hB
   ·omega
   assumption
  ·grind[Ty.flat]
  ·rename_i fs hu
   split at hty
   ·rename_i l hl
    split at hty
    ·rename_i hsz
     cases hty;obtain⟨xs,n,rfl,rfl,hlen,hxl,hxs⟩:=DataW.trod_struct hu hx;simp only[Ty.flat]at hf;have key:∀(fs':List Field) (off i0:Nat) (l:List Ty),pC P (iH P d) off fs'=some l->Ty.flats l=true->cs.length=off+Ty.sizes l->(∀i f,fs'[i]?=some f->trd enc P w n f.type ((cs.drop f.offset).take (P.cellsOf f.type))=xs[i0+i]?)->(i0+fs'.length<=xs.length) ->
       HasAll B H l (cs.drop off)/\(cs.drop off).all bO=true:=by
      intro fs'
      induction fs' with
      | nil=>
       intro off i0 l hl _ hle _ _;simp only[pC]at hl;cases hl;have:cs.drop off=[]:=by simp_all[Ty.sizes]
       grind[HasAll]
      | cons f r ih=>
       intro off i0 l hl hfl hle hget hbnd;simp only[pC]at hl;split at hl
       ·rename_i ty hty
        split at hl
        ·rename_i hc
         split at hl
         ·rename_i l' hl'
          cases hl;simp only[Ty.flats,ac₀]at hfl;simp only[Ty.sizes]at hle;have h0:=hget 0 f rfl;rw[hc.1,hc.2]at h0;simp at hbnd;have hlt:i0+0<xs.length:=byO;rw[bb₀ hlt]at h0;have hsm:Small B (xs[i0+0]).1:=by
           grind[Fits,FitsAll.mem]
          have f0:=lU H d f.type ty n _ _ hty hfl.1 h0 hsm;have f1:=ih (off+ty.size) (i0+1) l' hl' hfl.2 byO (fun i g hg=>by
           have:=hget (i+1) g (by simp_all)
           grind) byO
          grind[List.drop_drop,List.take_append_drop,HasAll,FlatOK.has,FlatOK.plain]
         ·simp at hl
        ·simp at hl
       ·simp at hl
     have:=key fs.toList 0 0 l hl hf byO (fun i f hf'=>by grind) (by simp[hxl]);refine⟨by grind[Has],by simp_all,by grind[Ty.size]⟩
    simp_all
   simp_all
  ·rename_i n e hu
   split at hty
   ·rename_i ty' hty'
    split at hty
    ·rename_i hc
     cases hty;obtain⟨xs,m,rfl,rfl,hlen,hxl,hxs⟩:=DataW.trod_array hu hx;have one:∀i,i<n->FlatOK B H ty' ((cs.drop (i*ty'.size)).take ty'.size):=by
      intro i hi;have h0:=hxs i hi;rw[hc.1]at h0;have hlt:i<xs.length:=byO;rw[bb₀ hlt]at h0;refine lU H d e ty' m _ _ hty' hf h0 ?_
      grind[Fits,FitsAll.mem]
     have hl':cs.length=n*ty'.size:=byO;refine⟨by grind[Has,tq,FlatOK.has],kt ty'.size n cs hl' (fun i hi=>(one i hi).plain),by assumption⟩
    simp_all
   simp_all
  simp_all
structure HR (φ:Map)(G:Nat)(H:Heap)(w:World):Prop where
 cell:∀i c,H.get i=some c->∃p arr ty fr,φ i=some p/\w.heap[p.b]?=some (.cells arr ty fr)/\arr.size=p.s+p.n/\c.length<=p.n/\(∀(j:Nat) v,c[j]?=some v->∃u,arr[p.s+j]?=some u/\VRel φ v u)
 dom:∀i p,φ i=some p->i<H.length
 glob:∀g,g<G->∃n,φ g=some ⟨g,0,n⟩
 plc:∀i p,φ i=some p->p.b<w.heap.size
theorem HR.rel{φ:Map}{G:Nat}{H:Heap}(h:HR φ G H w):HRel φ H.length G H w:=
 ⟨fun i c hc=>by
  obtain⟨p,arr,ty,fr,h1,h2,h3,h4,h5⟩:=h.cell i c hc;exact⟨p,arr,ty,fr,h1,h2,h3,h4,h5,fun hle=>absurd (Heap.get_lt hc) byO⟩,
  fun i j c d p q hc _ _ _ hle=>absurd (Heap.get_lt hc) byO,h.dom,h.glob,h.plc⟩
def ZOK(w:World)(cs:List Value):Prop:=∀a len,Value.slice (some a) len 0 ∈ cs->a.spot=none/\∃c t f,w.heap[a.block]?=some (.cells c t f)/\a.off<=c.size
theorem ZOK.sub{cs ds:List Value}(h:ZOK w cs)(hs:∀v ∈ ds,v ∈ cs):ZOK w ds:=fun a len hm=>h a len (hs _ hm)
structure Lifted (φ:Map)(G:Nat)(H:Heap)(w:World)(B:Nat)(ty:Ty)(cs:List Value)(φ':Map)(H':Heap)(vs:List Value):Prop where
 hr:HR φ' G H' w
 le:φ.le φ'
 longer:Longer H H'
 has:Has B H' ty vs
 rel:LRel φ' vs cs
theorem Has.plain_lift{φ:Map}{G:Nat}{H:Heap}{ty:Ty}{cs:List Value}(hr:HR φ G H w)(h:FlatOK B H ty cs):Lifted φ G H w B ty cs φ H cs:=
 ⟨hr,Map.le_refl φ,Longer.refl H,h.has,cW φ h.plain⟩
theorem HR.add{φ:Map}{G:Nat}{H:Heap}(hr:HR φ G H w)(_:G<=H.length){b s:Nat}{arr:Array Value}{ty:TypeId}{fr:Nat×Nat}(hb:w.heap[b]?=some (.cells arr ty fr)){c:List Value}(hs:s+c.length<=arr.size)
  (hc:∀(j:Nat) v,c[j]?=some v->arr[s+j]?=some v/\bO v=true):HR (φ.set H.length ⟨b,s,arr.size-s⟩) G (H++[some c]) w:=by
 have hle:φ.le (φ.set H.length ⟨b,s,arr.size-s⟩):=by
  intro i p hp;have:=hr.dom i p hp;simp only[Map.set];rw[if_neg byO];exact hp
 refine⟨fun i d hd=>?_,fun i p hp=>?_,fun g hg=>?_,fun i p hp=>?_⟩
 ·rw[en]at hd
  by_cases hi:i<H.length
  ·rw[ax₀ hi]at hd
   obtain⟨p,a,t,f,h1,h2,h3,h4,h5⟩:=hr.cell i d (en.2 hd);exact⟨p,a,t,f,hle _ _ h1,h2,h3,h4,fun j v hv=>by obtain⟨u,e1,e2⟩:=h5 j v hv;exact⟨u,e1,e2.mono hle⟩⟩
  ·have hlt:=(List.getElem?_eq_some_iff.1 hd).1
   simp at hlt;obtain rfl:i=H.length:=byO;simp at hd;subst hd;refine⟨⟨b,s,arr.size-s⟩,arr,ty,fr,by simp[Map.set],hb,by simp;omega,by simp;omega,fun j v hv=>?_⟩;obtain⟨e1,e2⟩:=hc j v hv;exact⟨v,e1,gD _ e2⟩
 ·simp only[Map.set]at hp
  split at hp
  ·rename_i e;subst e;simp
  ·have:=hr.dom i p hp;simp;omega
 ·obtain⟨n,hn⟩:=hr.glob g hg
  exact⟨n,hle _ _ hn⟩
 ·simp only[Map.set]at hp
  split at hp
  ·cases hp;exact(Array.getElem?_eq_some_iff.1 hb).1
  ·exact hr.plc i p hp
theorem pn{a:Addr}{v:Value}(h:w.cell? a=some v):a.spot=none/\∃c t f,w.heap[a.block]?=some (.cells c t f)/\c[a.off]?=some v:=by
 unfold World.cell? at h;split at h
 all_goals simp_all
theorem nN{G:Nat}:∀(d:Nat) (t:TypeId) (ty:Ty) (fuel:Nat) (cs:List Value) (x:DataW X×List MemPlace),iH P d t=some ty->ty.shallow=true->trd enc P w fuel t cs=some x->Small B x.1->ZOK w cs ->
  ∀(φ:Map) (H:Heap),HR φ G H w->G<=H.length->∃φ' H' vs,Lifted φ G H w B ty cs φ' H' vs
 | 0,_,_,_,_,_,h,_,_,_,_=>by simp[iH]at h
 | d+1,t,ty,fuel,cs,x,hty,hsh,hx,hB,hz=>by
  intro φ H hr hG;by_cases hf:ty.flat=true
  ·exact⟨φ,H,cs,Has.plain_lift hr (lU H (d+1) t ty fuel cs x hty hf hx hB)⟩
  simp only[iH]at hty;split at hty
  ·cases hty;simp[Ty.flat]at hf
  ·cases hty;simp[Ty.flat]at hf
  ·cases hty;simp[Ty.flat]at hf
  ·rename_i e hu
   split at hty
   ·rename_i ty' hty'
    split at hty
    ·rename_i hc
     cases hty;simp only[Ty.shallow]at hsh;rcases DataW.trod_slice hu hx with ⟨rfl,_⟩|⟨a,len,cap,elems,rest,n,rfl,rfl,rfl,hb,hlc,hcm,hel,he,hsp,_⟩
     ·exact⟨φ,H,[.slice none 0 0],hr,Map.le_refl φ,Longer.refl H,by rw[Has.eq_def];exact .inl rfl,cW φ rfl⟩
     ·obtain⟨hrl,hre⟩:=hsp rfl
      have each:∀i,i<cap->∃cs' y,w.cells? 0 (a.add (i*ty'.size)) ty'.size=some cs'/\trd enc P w n e cs'=some y/\y ∈ elems++rest:=by
       intro i hi;by_cases hi':i<len
       ·have h0:=he i hi'
        rw[bb₀ byO,ae₀,hc.1]at h0;obtain⟨cs',h1,h2⟩:=h0;exact⟨cs',_,h1,h2,List.mem_append_left _ (List.getElem_mem _)⟩
       ·have h0:=hre (i-len) byO
        rw[bb₀ byO,ae₀,hc.1,show len+(i-len)=i by omega]at h0;obtain⟨cs',h1,h2⟩:=h0;exact⟨cs',_,h1,h2,List.mem_append_right _ (List.getElem_mem _)⟩
      have hcell:∀i j,i<cap->j<ty'.size->∃cs',w.cells? 0 (a.add (i*ty'.size)) ty'.size=some cs'/\cs'.length=ty'.size/\w.cell? ((a.add (i*ty'.size)).add j)=cs'[j]?/\FlatOK B H ty' cs':=by
       intro i j hi hj;obtain⟨cs',y,h1,h2,h3⟩:=each i hi;have hs:=World.cells?_some h1;have hsm:Small B y.1:=by
        rcases hB with hB|hB
        ·exact .inl hB
        ·simp only[Fits]at hB
         rcases List.mem_append.1 h3 with h3|h3
         ·exact .inr (hB.2.1.mem (List.mem_map.2 ⟨_,h3,rfl⟩))
         ·exact .inr (hB.2.2.mem (List.mem_map.2 ⟨_,h3,rfl⟩))
       exact⟨cs',h1,hs.2.1,hs.2.2 j hj,lU H d e ty' n cs' y hty' hsh h2 hsm⟩
      have hblk:a.spot=none/\∃c t f,w.heap[a.block]?=some (.cells c t f)/\a.off+cap*ty'.size<=c.size:=by
       by_cases h0:cap=0
       ·subst h0
        obtain⟨z1,c,t,f,z2,z3⟩:=hz a len (by simp);exact⟨z1,c,t,f,z2,by simpa using z3⟩
       ·obtain⟨cs0,_,q2,q3,_⟩:=hcell 0 0 byO hc.2
        rw[bb₀ byO]at q3;simp[Addr.add]at q3;obtain⟨z1,c,t,f,z2,z3⟩:=pn q3;refine⟨z1,c,t,f,z2,?_⟩;obtain⟨cs1,_,r2,r3,_⟩:=hcell (cap-1) (ty'.size-1) byO byO;rw[bb₀ byO]at r3;obtain⟨_,c',t',f',y2,y3⟩:=pn r3;have hblk:((a.add ((cap-1)*ty'.size)).add (ty'.size-1)).block=a.block:=by
         unfold Addr.add;split<;>split<;>rfl
        have hoff:((a.add ((cap-1)*ty'.size)).add (ty'.size-1)).off=a.off+(cap-1)*ty'.size+(ty'.size-1):=by
         unfold Addr.add;split<;>split<;>simp_all
        rw[hblk,z2]at y2;cases y2;have hlt:=(Array.getElem?_eq_some_iff.1 y3).1;rw[hoff]at hlt;have:cap*ty'.size=(cap-1)*ty'.size+ty'.size:=by
         obtain⟨m,rfl⟩:∃m,cap=m+1:=⟨cap-1,byO⟩;simp[Nat.succ_mul]
        omega
      obtain⟨hspot,arr,at',fr,hblk,hroom⟩:=hblk;obtain⟨ab,ao,asp⟩:=a;simp only at hspot;subst hspot;simp only at hblk hroom;have hadd:∀n,(⟨ab,ao,none⟩:Addr).add n=⟨ab,ao+n,none⟩:=dK ab ao
      let c:=(arr.toList.drop ao).take (cap*ty'.size)
      have hcl:c.length=cap*ty'.size:=by simp[c];omega
      have hpart:∀i,i<cap->FlatOK B H ty' ((c.drop (i*ty'.size)).take ty'.size):=by
       intro i hi;obtain⟨cs',q1,q2,_,q4⟩:=hcell i 0 hi hc.2;have:(c.drop (i*ty'.size)).take ty'.size=cs':=by
        apply List.ext_getElem?;intro j;by_cases hj:j<ty'.size
        ·obtain⟨cs2,q1',_,q3',_⟩:=hcell i j hi hj
         rw[q1]at q1';cases q1';rw[<-q3',hadd,dK];have hb1:(i+1)*ty'.size<=cap*ty'.size:=Nat.mul_le_mul_right _ hi;rw[Nat.succ_mul]at hb1;rw[List.getElem?_take,if_pos hj,List.getElem?_drop,List.getElem?_take,if_pos byO,List.getElem?_drop];simp[World.cell?,hblk,Nat.add_assoc]
        ·rw[av₀ (by simp;omega),av₀ byO]
       rw[this];exact q4
      have hpl:c.all bO=true:=kt ty'.size cap c hcl (fun i hi=>(hpart i hi).plain);have hadd2:=hr.add hG hblk (c:=c) (s:=ao) (by rw[hcl];exact hroom) (fun j v hv=>by
       refine⟨?_,List.all_eq_true.1 hpl v (List.mem_of_getElem? hv)⟩;simp only[c]at hv;rw[List.getElem?_take]at hv;split at hv
       ·rw[List.getElem?_drop]at hv;simpa using hv
       ·simp at hv)
      refine⟨_,_,[.slice (some ⟨H.length,0,none⟩) len cap],hadd2,?_,⟨_,rfl⟩,?_,?_⟩
      ·intro i p hp
       have:=hr.dom i p hp;simp only[Map.set];rw[if_neg byO];exact hp
      ·simp only[Has]
       refine .inr ⟨H.length,len,cap,c,rfl,hlc,?_,by simp,?_,?_⟩
       ·rcases hB with hB|hB
        ·omega
        ·simp only[Fits]at hB
         have:=hB.1;simp[hel,hrl]at this;omega
       ·rw[en];simp
       ·exact tq ty'.size cap c hcl (fun i hi=>Has.mono ⟨_,rfl⟩ _ _ (hpart i hi).has)
      ·have:=VRel.slice (φ:=φ.set H.length ⟨ab,ao,arr.size-ao⟩) H.length 0 len cap ⟨ab,ao,arr.size-ao⟩ (by simp[Map.set])
       exact LRel.cons this (LRel.nil _)
    ·simp at hty
   ·simp at hty
  ·rename_i fs hu
   split at hty
   ·rename_i l hl
    split at hty
    ·rename_i hsz
     cases hty;obtain⟨xs,n,rfl,rfl,hlen,hxl,hxs⟩:=DataW.trod_struct hu hx;simp only[Ty.shallow]at hsh;have key:∀(fs':List Field) (off i0:Nat) (l:List Ty),pC P (iH P d) off fs'=some l->Ty.shallows l=true->cs.length=off+Ty.sizes l->(∀i f,fs'[i]?=some f->trd enc P w n f.type ((cs.drop f.offset).take (P.cellsOf f.type))=xs[i0+i]?)->(i0+fs'.length<=xs.length) ->
       ∀(φ:Map) (H:Heap),HR φ G H w->G<=H.length->∃φ' H' vs,HR φ' G H' w/\φ.le φ'/\Longer H H'/\HasAll B H' l vs/\LRel φ' vs (cs.drop off):=by
      intro fs'
      induction fs' with
      | nil=>
       intro off i0 l hl _ hle _ _ φ H hr hG;simp only[pC]at hl;cases hl;have:cs.drop off=[]:=by simp[Ty.sizes]at hle ⊢;omega
       rw[this];exact⟨φ,H,[],hr,Map.le_refl φ,Longer.refl H,by simp only[HasAll],LRel.nil φ⟩
      | cons f r ih=>
       intro off i0 l hl hfl hle hget hbnd φ H hr hG;simp only[pC]at hl;split at hl
       ·rename_i ty hty
        split at hl
        ·rename_i hc
         split at hl
         ·rename_i l' hl'
          cases hl;simp only[Ty.shallows,ac₀]at hfl;simp only[Ty.sizes]at hle;have h0:=hget 0 f rfl;rw[hc.1,hc.2]at h0;simp only[ak₀]at hbnd;have hlt:i0+0<xs.length:=byO;rw[bb₀ hlt]at h0;have hsm:Small B (xs[i0+0]).1:=by
           rcases hB with hB|hB
           ·exact .inl hB
           ·simp only[Fits]at hB
            exact .inr (hB.mem (List.mem_map.2 ⟨_,List.getElem_mem hlt,rfl⟩))
          obtain⟨φ1,H1,vs1,L1⟩:=nN (G:=G) d f.type ty n _ _ hty hfl.1 h0 hsm (hz.sub fun v hv=>List.mem_of_mem_drop (List.mem_of_mem_take hv)) φ H hr hG;obtain⟨φ2,H2,vs2,a1,a2,a3,a4,a5⟩:=ih (off+ty.size) (i0+1) l' hl' hfl.2 byO (fun i g hg=>by
           have:=hget (i+1) g (by simpa using hg);rw[show i0+1+i=i0+(i+1) by omega];exact this) byO φ1 H1 L1.hr (Nat.le_trans hG L1.longer.len)
          have hsplit:cs.drop off=(cs.drop off).take ty.size++cs.drop (off+ty.size):=by
           rw[<-List.drop_drop,List.take_append_drop]
          refine⟨φ2,H2,vs1++vs2,a1,Map.le_trans L1.le a2,L1.longer.trans a3,?_,?_⟩
          ·simp only[HasAll]
           exact⟨vs1,vs2,rfl,Has.mono a3 _ _ L1.has,a4⟩
          ·rw[hsplit];exact(L1.rel.mono a2).append a5
         ·simp at hl
        ·simp at hl
       ·simp at hl
     obtain⟨φ',H',vs,a1,a2,a3,a4,a5⟩:=key fs.toList 0 0 l hl hsh (by rw[hlen,hsz];omega) (fun i f hf'=>by simpa using hxs i f (by simpa using hf')) (by simp[hxl]) φ H hr hG;exact⟨φ',H',vs,a1,a2,a3,by simp only[Has];exact a4,by simpa using a5⟩
    ·simp at hty
   ·simp at hty
  ·rename_i n e hu
   split at hty
   ·rename_i ty' hty'
    split at hty
    ·cases hty
     simp only[Ty.shallow]at hsh;simp only[Ty.flat]at hf;exact absurd hsh hf
    ·simp at hty
   ·simp at hty
  ·simp at hty
end
open Go.ChangeShapes Go.WideShapes Go.ChangeAt Go.RowKit
theorem BS{P:Program}{fits:TypeId->Bool}:∀{d:Nat} {e:TypeId} {count off n:Nat},rowAt P fits d e count off n=true->off<=count*P.cellsOf e
 | 0,_,_,_,_,h=>by grind[rowAt]
 | d+1,e,count,off,n,h=>by
  simp only[rowAt]at h;split at h
  ·simp at h
  ·rename_i hs
   simp at h;have hd:=Nat.div_add_mod off (P.cellsOf e);have hm:=Nat.mod_lt off (Nat.pos_of_ne_zero hs);rcases h with h|h
   ·have h1:off/P.cellsOf e<=count:=byO
    have:=Nat.mul_le_mul_left (P.cellsOf e) h1
    grind
   ·have h1:off/P.cellsOf e+1<=count:=byO
    have:=Nat.mul_le_mul_left (P.cellsOf e) h1
    grind
theorem qd{P:Program}:∀{d:Nat} {e:TypeId} {count off:Nat} {u:TypeId} {n:Nat},liesAt P d e count off u n=true->off<=count*P.cellsOf e
 | 0,_,_,_,_,_,h=>by grind[liesAt]
 | d+1,e,count,off,u,n,h=>by
  simp only[liesAt,ar₀]at h;rcases h with h|h
  ·exact BS h
  ·split at h
   ·exact qd h
   ·simp at h
section
variable {X:Type}{enc:TypeId×Value->X}{P:Program}{w:World}
theorem pD{r:Reach}{base:Nat}{u:TypeId}{a:Addr}{len:Nat}(h:Cell.okWide P w r base u (.slice (some a) len 0)):a.spot=none/\∃c t f,w.heap[a.block]?=some (.cells c t f)/\a.off<=c.size:=by
 have h':Cell.ok P w r base u (.slice (some a) len 0):=by
  simp_all[Cell.okWide]
 unfold Cell.ok at h';split at h'<;>rename_i e<;>first|(cases e;done)|skip
 ·cases e
  obtain⟨_,_,hh⟩:=h';obtain⟨_,hs,row,cells,hsh,hl⟩:=hh;refine⟨hs,?_⟩;unfold World.shape? at hsh;split at hsh
  ·rename_i c t' f hb
   simp at hsh;refine⟨c,t',f,hb,?_⟩;have h1:=qd hl;have h2:=Nat.div_mul_le_self cells (P.cellsOf row);omega
  simp_all
 simp_all
theorem Mg{r:Reach}{base:Nat}{t:TypeId}{v:Value}(h:Value.okWide P w r base t v):ZOK w v.cells.toList:=by
 intro a len hm;have hcell:(∃cs,v=.agg cs/\cs.size=P.cellsOf t/\Row.okWide P w r base t cs)->a.spot=none/\∃c t f,w.heap[a.block]?=some (.cells c t f)/\a.off<=c.size:=by
  rintro⟨cs,rfl,_,ts,_,_,hall⟩
  grind[Value.cells,List.getElem?_of_mem,pD]
 unfold Value.okWide at h;split at h
 ·exact hcell h
 ·exact hcell h
 ·cases v<;>simp[Value.cells]at hm
  ·grind[pD]
  simp_all[Cell.okWide,Cell.ok]
def HasArg(B:Nat)(H:Heap)(ty:Ty)(v:Value):Prop:=
 match ty with
 | .rcd l=>∃cs:Array Value,v=.agg cs/\HasAll B H l cs.toList
 | .arr n e=>∃cs:Array Value,v=.agg cs/\HasN (Has B H e) n cs.toList
 | ty=>Has B H ty [v]
def mo(B:Nat)(H:Heap):List Ty->List Value->Prop
 | [],vs=>vs=[]
 | t::r,vs=>∃a b,vs=a::b/\HasArg B H t a/\mo B H r b
theorem HasArg.mono{B:Nat}{H H':Heap}(h:Longer H H'){ty:Ty}{v:Value}(e:HasArg B H ty v):HasArg B H' ty v:=by
 unfold HasArg at e ⊢
 grind[HasAll.mono,HasN.mono,Has.mono]
theorem zB{B:Nat}{H:Heap}{ty:Ty}{vs:List Value}(h:Has B H ty vs)(h1:∀l,ty≠.rcd l)(h2:∀n e,ty≠.arr n e):∃v,vs=[v]/\Has B H ty [v]:=by
 cases ty with
 | bool=>grind[Has]
 | int k=>grind[Has]
 | str=>grind[Has]
 | rcd l=>simp_all
 | arr n e=>simp_all
 | sl e=>
  grind[Has]
theorem En{d:Nat}{t:TypeId}{l:List Ty}(h:iH P d t=some (.rcd l)):∃fs,P.underlying t=some (.struct fs):=by
 cases d with
 | zero=>grind[iH]
 | succ d=>
  grind[iH]
theorem Em{d:Nat}{t:TypeId}{n:Nat}{e:Ty}(h:iH P d t=some (.arr n e)):∃m u,P.underlying t=some (.array m u):=by
 cases d with
 | zero=>grind[iH]
 | succ d=>
  grind[iH]
theorem DV{B G:Nat}{d:Nat}{t:TypeId}{ty:Ty}{v:Value}{x:DataW X}{ps:List MemPlace}{r:Reach}{base:Nat}(hty:iH P d t=some ty)(hsh:ty.shallow=true)
  (hx:DataW.Trod enc P w 0 (fun _=>true) true t v x ps) (hv:Value.okWide P w r base t v) (hB:Small B x) {φ:Map} {H:Heap} (hr:HR φ G H w) (hG:G<=H.length) :
  ∃φ' H' av,HR φ' G H' w/\φ.le φ'/\Longer H H'/\HasArg B H' ty av/\VRel φ' av v:=by
 obtain⟨fuel,hx⟩:=hx;obtain⟨φ',H',vs,L⟩:=nN d t ty fuel _ _ hty hsh hx hB (Mg hv) φ H hr hG;have haggv:(∃cs,v=.agg cs)->(∀cs:Array Value,v=.agg cs->∃av:Array Value,vs=av.toList/\VRel φ' (.agg av) v):=by
  rintro _ cs rfl;refine⟨vs.toArray,by simp,?_⟩;have hL:=L.rel;simp only[Value.cells]at hL;have:=LRel.arr (a:=vs.toArray) (a':=cs) |>.1 byO;exact .agg _ _ this.1 this.2
 by_cases h1:∃l,ty=.rcd l
 ·obtain⟨l,rfl⟩:=h1
  obtain⟨fs,hu⟩:=En hty;simp only[Value.okWide,hu]at hv;obtain⟨cs,rfl,_⟩:=hv;obtain⟨av,rfl,hrel⟩:=haggv ⟨cs,rfl⟩ cs rfl;have hh:=L.has;exact⟨φ',H',.agg av,L.hr,L.le,L.longer,⟨av,rfl,hh⟩,hrel⟩
 by_cases h2:∃n e,ty=.arr n e
 ·obtain⟨n,e,rfl⟩:=h2
  obtain⟨m,u,hu⟩:=Em hty;simp only[Value.okWide,hu]at hv;obtain⟨cs,rfl,_⟩:=hv;obtain⟨av,rfl,hrel⟩:=haggv ⟨cs,rfl⟩ cs rfl;have hh:=L.has;exact⟨φ',H',.agg av,L.hr,L.le,L.longer,⟨av,rfl,hh⟩,hrel⟩
 ·obtain⟨a,rfl,ha⟩:=zB L.has (fun l e=>h1 ⟨l,e⟩) (fun n e e'=>h2 ⟨n,e,e'⟩)
  refine⟨φ',H',a,L.hr,L.le,L.longer,?_,?_⟩
  ·simp_all[HasArg]
  ·have hL:=L.rel
   have hna:∀cs,v≠.agg cs:=by
    rintro cs rfl;have hnu:∀fs,P.underlying t≠some (.struct fs):=by
     cases d with
     | zero=>grind[iH]
     | succ d=>
      grind[iH]
    have hna:∀n e,P.underlying t≠some (.array n e):=by
     cases d with
     | zero=>grind[iH]
     | succ d=>
      grind[iH]
    simp_all[Value.okWide,Cell.okWide,Cell.ok]
   have hvc:v.cells.toList=[v]:=by
    cases v<;>first|rfl|simp_all
   rw[hvc]at hL;exact hL.2 0 _ _ rfl rfl
theorem sX{B G:Nat}{d:Nat}{r:Reach}{base:Nat}:∀(ts:List TypeId) (tys:List Ty) (vs:List Value) (ds:List (DataW X)) (ps:List MemPlace),ts.map (iH P d)=tys.map some->(∀ty ∈ tys,ty.shallow=true) ->
  DataW.TrodAll enc P w 0 (fun _=>true) true ts vs ds ps->(∀(j:Nat) t v,ts[j]?=some t->vs[j]?=some v->Value.okWide P w r base t v)->(∀x ∈ ds,Small B x)->∀{φ:Map} {H:Heap},HR φ G H w->G<=H.length ->
  ∃φ' H' avs,HR φ' G H' w/\φ.le φ'/\Longer H H'/\mo B H' tys avs/\LRel φ' avs vs
 | [],tys,vs,ds,ps,hts,_,hx,_,_,φ,H,hr,_=>by
  obtain⟨rfl,rfl,rfl⟩:=trodAll_nil hx;have:tys=[]:=by simp_all
  subst this;exact⟨φ,H,[],hr,Map.le_refl φ,Longer.refl H,rfl,LRel.nil φ⟩
 | t::ts,[],vs,ds,ps,hts,_,hx,_,_,φ,H,hr,_=>by simp at hts
 | t::ts,ty::tys,vs,ds,ps,hts,hsh,hx,hv,hB,φ,H,hr,hG=>by
  obtain⟨v,vs,x,ds,p,q,rfl,rfl,rfl,h0,hx⟩:=trodAll_cons hx;simp at hts;obtain⟨φ1,H1,av,a1,a2,a3,a4,a5⟩:=DV hts.1 (hsh ty (by simp)) h0 (hv 0 t v rfl rfl) (hB x (by simp)) hr hG;obtain⟨φ2,H2,avs,b1,b2,b3,b4,b5⟩:=sX ts tys vs ds q hts.2 (fun ty h=>hsh ty (by simp[h])) hx (fun j t v h1 h2=>hv (j+1) t v (by simp_all) (by simp_all)) (fun x h=>hB x (by simp[h])) a1 (Nat.le_trans hG a3.len);exact⟨φ2,H2,av::avs,b1,Map.le_trans a2 b2,a3.trans b3,⟨av,avs,rfl,a4.mono b3,b4⟩,LRel.cons (a5.mono b2) b5⟩
theorem Ec{G:Nat}(hG:G<=w.heap.size):HR (fun i=>if i<G then some ⟨i,0,0⟩ else none) G (List.replicate G none) w:=by
 refine⟨fun i c hc=>?_,fun i p hp=>?_,fun g hg=>⟨0,by simp[hg]⟩,fun i p hp=>?_⟩
 ·rw[en]at hc
  rw[List.getElem?_replicate]at hc;split at hc<;>simp at hc
 ·split at hp
  ·simpa
  ·simp at hp
 ·split at hp
  ·cases hp;simp;omega
  ·simp at hp
theorem mP{W W':World}(hl:laidOutB P=true)(hsame:∀p:MemPlace,p.block<W.heap.size->W.sameAt W' p):∀(ts:List TypeId) (vs:List Value) (ds:List (DataW X)) (ps:List MemPlace),(∀t ∈ ts,P.readableRec t=true/\t<P.types.size) ->
  DataW.TrodAll enc P W 0 (fun _=>true) true ts vs ds ps->DataW.TrodAll enc P W' 0 (fun b=>decide (b<W.heap.size)) true ts vs ds ps
 | [],vs,ds,ps,_,h=>by
  obtain⟨rfl,rfl,rfl⟩:=trodAll_nil h;rfl
 | t::ts,vs,ds,ps,hr,h=>by
  have hlt:=h.lt;obtain⟨v,vs,x,ds,p,q,rfl,rfl,rfl,h0,hx⟩:=trodAll_cons h;exact⟨p,q,WideElems.Trod_stays hl (hr t (by simp)).1 (hr t (by simp)).2 h0 (fun y hy=>hsame y (hlt y (by simp[hy]))) (fun y hy=>by simp_all),
   mP hl hsame ts vs ds q (fun t ht=>hr t (by simp[ht])) hx,rfl⟩
theorem uE{f:FuncId}{fn:Func}{s:ChangeSpec}{cp:FuncId->Option CF}(hok:∀base n,RunOK P base P.globals.size (run cp n)){d:Nat}{tys:List Ty}{bt:TypeId}
  (hty:fn.params.toList.map (iH P d)=tys.map some) (hsh:tys.all Ty.shallow=true) (hres:fn.resultTypes=#[bt]) (hbt:P.underlying bt=some .bool) (hl:laidOutB P=true)
  (hread:fn.params.toList.all (fun t=>P.readableRec t&&decide (t<P.types.size))=true) (hvars:s.vars=[]) (hfn:∀(X:Type) (ds:List (DataW X)),ds.length=tys.length->s.fn X ds=⟨[.lit (.bool true)],ds,[]⟩)
  {B:Nat} (law:∀(H:Heap) (vs:List Value),mo B H tys vs->Ev cp H.length f vs H (fun v _=>v=.bool true))
  (W:World) (hG:P.globals.size<=W.heap.size) (base:Nat) (args:Array Value) (ds gs:List (DataW X)) (before:List MemPlace)
  (c9:∀(j:Nat) t v,fn.params[j]?=some t->args[j]?=some v->Value.okWide P W .any base t v)
  (hW:DataW.Whole enc P fn.params.toList s.vars false W args.toList ds gs before) (hB:∀x ∈ ds,Small B x) :
  Calls P f args W fun e W'=>∃v,e=.returned v/\s.post enc P fn false true false false W args v W':=by
 have hW':=hW;obtain⟨p,q,hA,hV,rfl,hfz,hnd⟩:=hW;rw[hvars]at hV;obtain⟨rfl,rfl⟩:=trodVars_none hV;have hA':DataW.TrodAll enc P W 0 (fun _=>true) true fn.params.toList args.toList ds p:=hA;obtain⟨φ,H,avs,b1,b2,b3,b4,b5⟩:=sX (B:=B) fn.params.toList tys args.toList ds p hty (List.all_eq_true.1 hsh) hA' (fun j t v h1 h2=>c9 j t v (by simpa using h1) (by simpa using h2)) hB (Ec hG) (by simp);have hc:=vD hok b1.rel b5 (law H avs b4);refine hc.mono fun e W' ⟨v,cv,H',φ',hv,he,hE,hrel⟩=>?_;subst hv;cases hrel;have hblk:∀b,b<W.heap.size->W'.heap[b]?=W.heap[b]?:=fun b hb=>hE.keep b hb (fun i c p hi hc=>absurd (Heap.get_lt hc) byO);have hsame:∀p:MemPlace,p.block<W.heap.size->W.sameAt W' p:=by
  intro p hp;cases p with
  | cell b o=>exact World.cell?_of_block (w:=W) (hblk b hp)
  | map b=>exact hblk b hp
 have hdl:ds.length=tys.length:=by
  have h1:∀(ts:List TypeId) (vs:List Value) (ds:List (DataW X)) (ps:List MemPlace),DataW.TrodAll enc P W 0 (fun _=>true) true ts vs ds ps->ds.length=ts.length:=by
   intro ts
   induction ts with
   | nil=>intro vs ds ps h;obtain⟨rfl,rfl,rfl⟩:=trodAll_nil h;rfl
   | cons t ts ih=>intro vs ds ps h;obtain⟨v,vs,x,ds,p,q,rfl,rfl,rfl,h0,hx⟩:=trodAll_cons h;simp[ih _ _ _ hx]
  have:=congrArg List.length hty;simp at this;rw[h1 _ _ _ _ hA'];simpa using this
 have hs:s.fn X (ds++[])=⟨[.lit (.bool true)],ds,[]⟩:=by rw[List.append_nil];exact hfn X ds hdl
 refine⟨_,he,ds,[],p++[],[],p,[],hW',?_,?_,?_,?_,fun h=>by cases h⟩
 ·rw[hs,hres]
  exact trodAll_mk1 (shut_bool hbt true)
 ·rw[hs]
  exact mP hl hsame _ _ _ _ (fun t ht=>by simpa using List.all_eq_true.1 hread t ht) hA'
 ·rw[hs,hvars];rfl
 ·refine⟨hE.os,hE.out,fun i hi=>?_⟩
  rw[hblk i hi];split<;>simp_all
end
def frz:Nat->List Value
 | n+1=>undef::frz n
 | 0=>[]
def frm:List Value->Nat->List Value
 | a::l,n=>a::frm l n
 | [],n=>frz n
theorem DD:(n:Nat)->frz n=List.replicate n undef
 | n+1=>by rw[frz,DD n];rfl
 | 0=>rfl
theorem DB:(l:List Value)->(n:Nat)->frm l n=l++List.replicate n undef
 | a::l,n=>by rw[frm,DB l n];rfl
 | [],n=>DD n
theorem stG{cp:FuncId->Option CF}{lo:Nat}{f:FuncId}{np d:Nat}{r:List E}{b:Stm}{args:List Value}{H:Heap}{R:Value->Heap->Prop}(hcf:cp f=some ⟨np,d+np,r,b,.plain⟩)(hnp:args.length=np)(h:wpS cp lo b (eP ⟨0,0,r,.skip,.plain⟩ R) (frm args d) H):Ev cp lo f args H R:=
 Cu hcf rfl hnp (by rw[Nat.add_sub_cancel,<-DB];exact h)
theorem ncM{P:Prop}(h:P:=by first|rfl|(simp only[ap₀,Int.natCast_one];rfl)|simp only[ap₀,Int.natCast_one]):P:=h
structure Hdn (P:Prop):Prop where
 out:P
section control
variable {cp:FuncId->Option CF}{lo:Nat}
def uf(cp:FuncId->Option CF)(lo:Nat)(b:Stm)(Q:bz):bz:=fun ex S' H'=>match ex with | .normal=>wpS cp lo b Q S' H'|ex=>Q ex S' H'
def iQ(i:Nat)(Q:bz):bz:=fun ex S' H'=>match ex with | .exit j=>if j=i then Q .normal S' H' else Q (.exit j) S' H'|ex=>Q ex S' H'
theorem wu{a b:Stm}{Q:bz}{S:List Value}{H:Heap}:wpS cp lo (.seq a b) Q S H=wpS cp lo a (uf cp lo b Q) S H:=rfl
theorem Bo{i:Nat}{b:Stm}{Q:bz}{S:List Value}{H:Heap}:wpS cp lo (.block i b) Q S H=wpS cp lo b (iQ i Q) S H:=rfl
theorem ya{Q:bz}{S:List Value}{H:Heap}:wpS cp lo .skip Q S H=Q .normal S H:=rfl
theorem FK{i:Nat}{Q:bz}{S:List Value}{H:Heap}:wpS cp lo (.exit i) Q S H=Q (.exit i) S H:=rfl
theorem KI{Q:bz}{S:List Value}{H:Heap}:wpS cp lo .ret Q S H=Q .ret S H:=rfl
theorem E1{b:Stm}{Q:bz}{S:List Value}{H:Heap}:uf cp lo b Q .normal S H=wpS cp lo b Q S H:=rfl
theorem E0{b:Stm}{Q:bz}{i:Nat}{S:List Value}{H:Heap}:uf cp lo b Q (.exit i) S H=Q (.exit i) S H:=rfl
theorem MR{b:Stm}{Q:bz}{S:List Value}{H:Heap}:uf cp lo b Q .ret S H=Q .ret S H:=rfl
theorem Bs{i:Nat}{Q:bz}{S:List Value}{H:Heap}:iQ i Q .normal S H=Q .normal S H:=rfl
theorem Bt{i:Nat}{Q:bz}{S:List Value}{H:Heap}:iQ i Q .ret S H=Q .ret S H:=rfl
theorem kT{i j:Nat}{Q:bz}{S:List Value}{H:Heap}:iQ i Q (.exit j) S H=if j=i then Q .normal S H else Q (.exit j) S H:=rfl
theorem my{l:List (Nat×E)}{chk:List E}{Q:bz}{S:List Value}{H:Heap}{vs:List (Nat×Value)}(h:evSets S H l=some vs)(hc:evChk S H chk=true){S':List Value}(hS:setAll S vs=S')(k:Q .normal S' H):wpS cp lo (.sets l chk) Q S H:=by
 grind[wpS]
theorem ru{l:List (Nat×E)}{chk:List E}{dst:Option Nat}{o:HOp}{a:E}{Q:bz}{S:List Value}{H:Heap}{vs:List (Nat×Value)}{xs:List Value}(h:evSets S H l=some vs)(hc:evChk S H chk=true)(ha:ev S H a=some xs)
  (k:wpH cp lo o xs H fun v H'=>Q .normal (setD (setAll S vs) dst v) H'):wpS cp lo (.hv l chk [] dst o a) Q S H:=by
 grind[wpS,holds]
theorem fV{f:FuncId}{first cap:Array Value}{args:List Value}{H:Heap}{R R':Value->Heap->Prop}(h:Ev cp lo f (first.toList++args++cap.toList) H R')(k:∀v H',R' v H'->R v H'):wpH cp lo .callC (.func (.func f) first cap::args) H R:=
 h.mono k
theorem bP{l:List (Nat×E)}{chk:List E}{pc:PC}{dst:Option Nat}{o:HOp}{a:E}{Q:bz}{S:List Value}{H:Heap}{vs:List (Nat×Value)}{t:Bool}(h:evSets S H l=some vs)(hc:evChk S H chk=true)(hp:holds S H pc=some t)
  (k1:t=true->∃xs,ev S H a=some xs/\wpH cp lo o xs H fun v H'=>Q .normal (setD (setAll S vs) dst v) H') (k2:t=false->Q .normal (setD (setAll S vs) dst undef) H):wpS cp lo (.hv l chk pc dst o a) Q S H:=by
 grind[wpS]
theorem lL{c:E}{a b:Stm}{Q:bz}{S:List Value}{H:Heap}{t:Bool}(h:ev1 S H c=some (.bool t))(k1:t=true->wpS cp lo a Q S H)(k2:t=false->wpS cp lo b Q S H):wpS cp lo (.cond c a b) Q S H:=by
 grind[wpS]
theorem y5{a b:E}{Q:bz}{S:List Value}{H:Heap}{x y:Value}(hx:ev1 S H a=some x)(hy:ev1 S H b=some y)(hd:ag x=none\/ag x≠ag y)(k:Q .normal S H):wpS cp lo (.dist a b) Q S H:=by
 grind[wpS]
def zN(J:Nat->List Value->Heap->Prop)(m:Nat)(Q:bz):bz:=fun ex S' H'=>match ex with | .normal=>∃m',m'<m/\J m' S' H'|ex=>Q ex S' H'
theorem aY{b:Stm}{Q:bz}{S:List Value}{H:Heap}(J:Nat->List Value->Heap->Prop)(m:Nat)(h0:J m S H)(hs:∀m S H,J m S H->wpS cp lo b (zN J m Q) S H):wpS cp lo (.loop b) Q S H:=⟨J,m,h0,hs⟩
theorem ak{J:Nat->List Value->Heap->Prop}{m:Nat}{Q:bz}{S:List Value}{H:Heap}:zN J m Q .normal S H=∃m',m'<m/\J m' S H:=rfl
theorem zO{J:Nat->List Value->Heap->Prop}{m i:Nat}{Q:bz}{S:List Value}{H:Heap}:zN J m Q (.exit i) S H=Q (.exit i) S H:=rfl
theorem GH{J:Nat->List Value->Heap->Prop}{m:Nat}{Q:bz}{S:List Value}{H:Heap}:zN J m Q .ret S H=Q .ret S H:=rfl
theorem kU{cf:CF}{R:Value->Heap->Prop}{S:List Value}{H:Heap}{vs:List Value}(h:evList S H cf.res=some vs)(k:R (aM vs) H):eP cf R .ret S H:=by
 grind[eP]
theorem dI{cf:CF}{R:Value->Heap->Prop}{S:List Value}{H:Heap}{vs:List Value}(h:evList S H cf.res=some vs)(k:R (aM vs) H):eP cf R .normal S H:=by
 grind[eP]
theorem wpS.mono{st:Stm}{Q Q':bz}{S:List Value}{H:Heap}(h:wpS cp lo st Q S H)(hq:∀ex S H,Q ex S H->Q' ex S H):wpS cp lo st Q' S H:=by
 have wpH_mono:∀(o:HOp) (vs:List Value) (H:Heap) (R R':Value->Heap->Prop),(∀v H,R v H->R' v H)->wpH cp lo o vs H R->wpH cp lo o vs H R':=by
  intro o vs H R R' hr h;cases o
  case call raise=>
   simp only[wpH]at h ⊢;split at h
   ·exact h.mono hr
   ·exact h
  case callC=>
   simp only[wpH]at h ⊢;split at h
   ·exact h.mono hr
   ·exact h
  all_goals
   simp only[wpH]at h ⊢;split at h
   ·exact hr _ _ h
   ·exact h.elim
 have wpP_mono:∀(o:HOp) (vs:List Value) (H:Heap) (R R':Value->Heap->Prop),(∀v H,R v H->R' v H)->wpP cp lo o vs H R->wpP cp lo o vs H R':=by
  intro o vs H R R' hr h;unfold wpP at h ⊢;split at h
  ·split at h
   ·exact h.mono hr
   ·exact h
  ·split at h
   ·exact hr _ _ h
   ·exact h
  ·exact h.elim
 revert h hq
 induction st generalizing Q Q' S H with
 | skip=>intro h hq;exact hq _ _ _ h
 | sets l chk=>
  intro h hq;simp only[wpS]at h ⊢;split at h
  ·exact⟨h.1,hq _ _ _ h.2⟩
  ·exact h
 | hv l chk pc dst o a=>
  intro h hq;simp only[wpS]at h ⊢;split at h
  ·refine⟨h.1,?_⟩
   have h2:=h.2;split at h2
   ·split at h2
    ·exact h2.imp (wpH_mono _ _ _ _ _ (fun v H h=>hq _ _ _ h)) (wpP_mono _ _ _ _ _ (fun v H h=>hq _ _ _ h))
    ·exact h2
   ·exact hq _ _ _ h2
   ·exact h2
  ·exact h
 | dist a b=>
  intro h hq;simp only[wpS]at h ⊢;split at h
  ·exact⟨h.1,hq _ _ _ h.2⟩
  ·exact h
 | seq a b iha ihb=>
  intro h hq;refine iha h fun ex S H h=>?_;cases ex with
  | normal=>exact ihb h hq
  | exit i=>exact hq _ _ _ h
  | ret=>exact hq _ _ _ h
 | cond c a b iha ihb=>
  intro h hq;simp only[wpS]at h ⊢;split at h
  ·exact⟨fun e=>iha (h.1 e) hq,fun e=>ihb (h.2 e) hq⟩
  ·exact h
 | block i b ih=>
  intro h hq;refine ih h fun ex S H h=>?_;cases ex with
  | normal=>exact hq _ _ _ h
  | exit j=>
   simp only at h ⊢;split at h
   ·rename_i e;rw[if_pos e];exact hq _ _ _ h
   ·rename_i e;rw[if_neg e];exact hq _ _ _ h
  | ret=>exact hq _ _ _ h
 | loop b ih=>
  intro h hq;obtain⟨J,m,h0,hs⟩:=h;refine⟨J,m,h0,fun m S H hJ=>ih (hs m S H hJ) fun ex S H h=>?_⟩;cases ex with
  | normal=>exact h
  | exit j=>exact hq _ _ _ h
  | ret=>exact hq _ _ _ h
 | exit i=>intro h hq;exact hq _ _ _ h
 | ret=>intro h hq;exact hq _ _ _ h
 | alt l s r ihs ihr=>
  intro h hq;simp only[wpS]at h ⊢;split at h
  ·exact⟨fun e=>ihs (h.1 e) hq,fun e=>ihr (h.2 e) hq⟩
  ·exact h
 | scope b alts ihb iha=>
  intro h hq;obtain⟨J,h0,hs⟩:=h;refine⟨J,ihb h0 fun ex S H h=>?_,fun m l S H hJ=>iha (hs m l S H hJ) fun ex S H h=>?_⟩
  ·cases ex with
   | normal=>exact hq _ _ _ h
   | ret=>exact hq _ _ _ h
   | exit j=>
    simp only at h ⊢;split at h
    ·rename_i e;rw[if_pos e];exact h
    ·rename_i e;rw[if_neg e];exact hq _ _ _ h
  ·cases ex with
   | normal=>exact hq _ _ _ h
   | ret=>exact hq _ _ _ h
   | exit j=>
    simp only at h ⊢;split at h
    ·rename_i e;rw[if_pos e];exact h
    ·rename_i e;rw[if_neg e];exact hq _ _ _ h
theorem aA{f:FuncId}{first cap:Array Value}{args:List Value}{H:Heap}{R R':Value->Heap->Prop}(h:Ev cp lo f (first.toList++args++cap.toList) H R')(k:∀v H',R' v H'->R v H'):wpH cp lo (.call false) (.func (.func f) first cap::args) H R:=
 h.mono k
theorem aN{f:FuncId}{first cap:Array Value}{args:List Value}{H:Heap}{R R':Value->Heap->Prop}(h:Ev cp H.length f (first.toList++args++cap.toList) H R')(k:∀v H',R' v H'->R v H'):wpH cp lo (.call true) (.func (.func f) first cap::args) H R:=
 h.mono k
end control
def Ext(H H':Heap):Prop:=H.length<=H'.length/\∀i,i<H.length->H'.get i=H.get i
theorem Ext.refl(H:Heap):Ext H H:=⟨Nat.le_refl _,fun _ _=>rfl⟩
theorem Ext.trans{A B C:Heap}(h:Ext A B)(k:Ext B C):Ext A C:=⟨Nat.le_trans h.1 k.1,fun i hi=>(k.2 i (bc₀ hi h.1)).trans (h.2 i hi)⟩
theorem vg{H:Heap}{x:Option (List Value)}{i:Nat}(h:i<H.length):Heap.get (H++[x]) i=H.get i:=by
 grind[Heap.get]
theorem aF{H:Heap}{i:Nat}{c:List Value}(h:i<H.length):Heap.get (H.set i (some c)) i=some c:=by
 grind[en]
theorem aH{H:Heap}{i j:Nat}{x:Option (List Value)}(h:i≠j):Heap.get (H.set i x) j=H.get j:=by
 grind[Heap.get]
theorem Ext.push(H:Heap)(x:Option (List Value)):Ext H (H++[x]):=⟨by simp,fun _ h=>vg h⟩
theorem Ext.set{H H':Heap}(h:Ext H H'){i:Nat}{x:Option (List Value)}(hi:H.length<=i):Ext H (H'.set i x):=⟨by simpa using h.1,fun j hj=>by rw[aH byO];exact h.2 j hj⟩
theorem Ext.get{A B:Heap}(h:Ext A B){i:Nat}{c:List Value}(hc:A.get i=some c):B.get i=some c:=(h.2 i (Heap.get_lt hc)).trans hc
theorem aK{H:Heap}{c:List Value}{L:Heap}:Heap.get (H++(some c::L)) H.length=some c:=by grind[en]
theorem bI{H L:Heap}{k:Nat}:Heap.get (H++L) (H.length+k)=Heap.get L k:=by
 grind[Heap.get]
theorem dN{H L:Heap}{i:Nat}(h:i<H.length):Heap.get (H++L) i=H.get i:=by
 grind[Heap.get]
theorem Ad{c:List Value}{L:Heap}:Heap.get (some c::L) 0=some c:=rfl
theorem Ae{x:Option (List Value)}{L:Heap}{k:Nat}:Heap.get (x::L) (k+1)=Heap.get L k:=rfl
theorem E2{H L:Heap}{x y:Option (List Value)}:(H++(x::L)).set H.length y=H++(y::L):=by simp
theorem E3{H L:Heap}{k:Nat}{y:Option (List Value)}:(H++L).set (H.length+k) y=H++L.set k y:=by simp_all
theorem yO{H L:Heap}{i:Nat}{y:Option (List Value)}(h:i<H.length):(H++L).set i y=H.set i y++L:=by simp_all
theorem Ext.app(H L:Heap):Ext H (H++L):=⟨by simp,fun _ h=>dN h⟩
theorem Ext.of_app{A B L:Heap}(h:Ext (A++L) B):Ext A B:=(Ext.app A L).trans h
theorem rN{k:Mv}{v v':Value}(h:bO v=true)(s:Sh k v v'):v'=v:=by
 cases s<;>first|rfl|simp[bO]at h
 rename_i f a b a' b' ha hb ra rb;have e1:a=#[]:=by simpa using h.1
 have e2:b=#[]:=by simpa using h.2
 subst e1 e2;have e3:a'=#[]:=by simpa using ha.symm
 have e4:b'=#[]:=by simpa using hb.symm
 subst e3 e4;rfl
theorem sf{k:Mv}:∀{c c':List Value},c.all bO=true->LSh k c c'->c'=c
 | [],c',_,s=>s.of_nil
 | x::c,c',h,s=>by
  simp only[List.all_cons,ac₀]at h;obtain⟨y,r,rfl,h1,h2⟩:=s.of_cons;rw[rN h.1 h1,sf h.2 h2]
theorem mZ{H H':Heap}{H0:Heap}(h:HSh (mv0 H.length) H0 H')(hp:∀i,i<H.length->H'[i]?=H[i]?):Ext H H':=⟨by have:=h.len;simp[mv0]at this;omega,fun i hi=>by unfold Heap.get;rw[hp i hi]⟩
theorem kK{cp:FuncId->Option CF}(hp:∀f cf,cp f=some cf->aI cf=true){f:FuncId}{n i len cap:Nat}{sp:Option Nat}{c:List Value}{args:List Value}(ha:args.all fO=true)(h:((run cp n).ret 0 f args []).map (fun r=>(r.1,r.2.get i))=some (.slice (some ⟨i,0,sp⟩) len cap,some c))(hc:c.all bO=true)
  {lo:Nat} {H:Heap} (hlo:lo<=H.length):Ev cp lo f args H (fun v H'=>∃j,H.length<=j/\v=.slice (some ⟨j,0,sp⟩) len cap/\H'.get j=some c/\Ext H H'):=by
 obtain⟨⟨v,H0⟩,hr,he⟩:=Option.map_eq_some_iff.1 h;simp only[ad₀]at he;obtain⟨rfl,hg⟩:=he;refine nF hp ha n (mh hr) hlo fun v' H' hv hH hpre=>?_;cases hv;obtain⟨c',h1,h2⟩:=hH.get i c hg;rw[sf hc h2]at h1;rw[JT]at h1 ⊢;exact⟨_,byO,rfl,h1,mZ hH hpre⟩
theorem lO{cp:FuncId->Option CF}(hp:∀f cf,cp f=some cf->aI cf=true){f:FuncId}{n:Nat}{args:List Value}{v:Value}(ha:args.all fO=true)(h:((run cp n).ret 0 f args []).map (·.1)=some v)(hv:bO v=true)
  {lo:Nat} {H:Heap} (hlo:lo<=H.length):Ev cp lo f args H (fun v' H'=>v'=v/\Ext H H'):=by
 obtain⟨⟨v,H0⟩,hr,rfl⟩:=Option.map_eq_some_iff.1 h;refine nF hp ha n (mh hr) hlo fun v' H' hv' hH hpre=>⟨rN hv hv',mZ hH hpre⟩
def Heap.at(H:Heap)(b o:Nat):Option Value:=match H.get b with|some c=>c[o]?|none=>none
theorem cells_get{H:Heap}{b:Nat}{c:List Value}(h:H.get b=some c){o n:Nat}(hn:o+n<=c.length):H.cells b o n=some ((c.drop o).take n):=by
 grind[Heap.cells]
theorem u0{c:List Value}{o:Nat}{v:Value}(h:o<c.length):putCells c o [v]=c.set o v:=by
 grind[putCells,List.set_eq_take_append_cons_drop]
section light
variable {H:Heap}
theorem OO(x:Value):aJ .mv [x] H=some x:=rfl
theorem Kt(k:IntKind)(a b:Int):aJ (.bin .add) [.int k a,.int k b] H=some (.int k (k.wrap (a+b))):=by grind[aJ,bF,bQ]
theorem LX(k:IntKind)(a b:Int):aJ (.bin .sub) [.int k a,.int k b] H=some (.int k (k.wrap (a-b))):=by grind[aJ,bF,bQ]
theorem LL(k:IntKind)(a b:Int):aJ (.bin .mul) [.int k a,.int k b] H=some (.int k (k.wrap (a*b))):=by grind[aJ,bF,bQ]
theorem LQ{k:IntKind}{a b:Int}(h:b≠0):aJ (.bin .quo) [.int k a,.int k b] H=some (.int k (k.wrap (a.tdiv b))):=by grind[aJ,bF,bQ]
theorem LR{k:IntKind}{a b:Int}(h:b≠0):aJ (.bin .rem) [.int k a,.int k b] H=some (.int k (a.tmod b)):=by grind[aJ,bF,bQ]
theorem Ku(k:IntKind)(a b:Int):aJ (.bin .and) [.int k a,.int k b] H=some (.int k (k.wrap (BitVec.ofInt k.bits a &&& BitVec.ofInt k.bits b).toNat)):=by grind[aJ,bF,bQ]
theorem OP(k:IntKind)(a b:Int):aJ (.bin .or) [.int k a,.int k b] H=some (.int k (k.wrap (BitVec.ofInt k.bits a ||| BitVec.ofInt k.bits b).toNat)):=by grind[aJ,bF,bQ]
theorem LY(k:IntKind)(a b:Int):aJ (.bin .xor) [.int k a,.int k b] H=some (.int k (k.wrap (BitVec.ofInt k.bits a ^^^ BitVec.ofInt k.bits b).toNat)):=by grind[aJ,bF,bQ]
theorem Ky(k:IntKind)(a b:Int):aJ (.bin .eql) [.int k a,.int k b] H=some (.bool (decide (a=b))):=by grind[aJ,bF,bQ]
theorem LN(k:IntKind)(a b:Int):aJ (.bin .neq) [.int k a,.int k b] H=some (.bool (decide (a≠b))):=by grind[aJ,bF,bQ]
theorem LI(k:IntKind)(a b:Int):aJ (.bin .lss) [.int k a,.int k b] H=some (.bool (decide (a<b))):=by grind[aJ,bF,bQ]
theorem LH(k:IntKind)(a b:Int):aJ (.bin .leq) [.int k a,.int k b] H=some (.bool (decide (a<=b))):=by grind[aJ,bF,bQ]
theorem LC(k:IntKind)(a b:Int):aJ (.bin .gtr) [.int k a,.int k b] H=some (.bool (decide (b<a))):=by grind[aJ,bF,bQ]
theorem LA(k:IntKind)(a b:Int):aJ (.bin .geq) [.int k a,.int k b] H=some (.bool (decide (b<=a))):=by grind[aJ,bF,bQ]
theorem LS{k k':IntKind}{a b:Int}(h:0<=b):aJ (.bin .shl) [.int k a,.int k' b] H=some (.int k (k.wrap (a*2^(min b.toNat k.bits)))):=by grind[aJ,bF,gX]
theorem LU{k k':IntKind}{a b:Int}(h:0<=b):aJ (.bin .shr) [.int k a,.int k' b] H=some (.int k (a.fdiv (2^(min b.toNat k.bits)))):=by grind[aJ,bF,gX]
theorem Kx(neg a b:Bool):aJ (.eqB neg) [.bool a,.bool b] H=some (.bool ((a==b) != neg)):=rfl
theorem Kw(neg:Bool)(ks:List Nat)(xs ys:Array Value):aJ (.eqA neg ks) [.agg xs,.agg ys] H=(aj ks xs.toList ys.toList).map fun b=>.bool (b != neg):=rfl
theorem GJ(neg:Bool)(l c l' c':Nat):aJ (.eqN neg) [.slice none l c,.slice none l' c'] H=some (.bool (true != neg)):=rfl
theorem GK(neg:Bool)(a:Addr)(l c l' c':Nat):aJ (.eqN neg) [.slice (some a) l c,.slice none l' c'] H=some (.bool (false != neg)):=rfl
theorem LO(b:Bool):aJ (.un .not) [.bool b] H=some (.bool !b):=rfl
theorem LM(k:IntKind)(n:Int):aJ (.un .neg) [.int k n] H=some (.int k (k.wrap (0-n))):=rfl
theorem Kv(k k':IntKind)(n:Int):aJ (.cvt k) [.int k' n] H=some (.int k (k.wrap n)):=rfl
theorem GI(s:ByteArray):aJ .cvtS [.string s] H=some (.string s):=rfl
theorem Ar(a:Addr):aJ .nilChk [.pointer (some a)] H=some (.pointer (some a)):=rfl
theorem xp(f:FuncId)(x y:Array Value):aJ .nilChk [.func (.func f) x y] H=some (.func (.func f) x y):=rfl
theorem D2(off i o:Nat):aJ (.fAddr off) [.pointer (some ⟨i,o,none⟩)] H=some (.pointer (some ⟨i,o+off,none⟩)):=rfl
theorem GL(off n:Nat)(cs:Array Value):aJ (.fld off n false) [.agg cs] H=cs[off]?:=rfl
theorem GM{off n:Nat}{cs:Array Value}(h:off+n<=cs.size):aJ (.fld off n true) [.agg cs] H=some (.agg (cs.extract off (off+n))):=by grind[aJ]
theorem nQ{sz b o l c:Nat}{sp:Option Nat}{k:IntKind}{i:Int}(h0:0<=i)(h1:i<l):aJ (.iAddr sz) [.slice (some ⟨b,o,sp⟩) l c,.int k i] H=some (.pointer (some ⟨b,o+i.toNat*sz,none⟩)):=by grind[aJ]
theorem Aq{len sz b o:Nat}{k:IntKind}{i:Int}(h0:0<=i)(h1:i<len):aJ (.iAddrA len sz) [.pointer (some ⟨b,o,none⟩),.int k i] H=some (.pointer (some ⟨b,o+i.toNat*sz,none⟩)):=by grind[aJ]
theorem GN{len sz:Nat}{cs:Array Value}{k:IntKind}{i:Int}(h0:0<=i)(h1:i<len):aJ (.idx len sz false) [.agg cs,.int k i] H=cs[i.toNat*sz]?:=by grind[aJ]
theorem GO{len sz:Nat}{cs:Array Value}{k:IntKind}{i:Int}(h0:0<=i)(h1:i<len)(h2:i.toNat*sz+sz<=cs.size):aJ (.idx len sz true) [.agg cs,.int k i] H=some (.agg (cs.extract (i.toNat*sz) (i.toNat*sz+sz))):=by grind[aJ]
theorem LD(n b o:Nat):aJ (.ld n false) [.pointer (some ⟨b,o,none⟩)] H=H.at b o:=by
 grind[aJ,Heap.cells,Heap.at,List.head?_take,List.head?_drop]
theorem GQ(n b o:Nat):aJ (.ld n true) [.pointer (some ⟨b,o,none⟩)] H=match H.get b with|some c=>(if o+n<=c.length then some (.agg ((c.drop o).take n).toArray) else none)|none=>none:=by
 grind[aJ,Heap.cells]
theorem LG(a:Option Addr)(n c:Nat):aJ .len [.slice a n c] H=some (.int .i64 n):=rfl
theorem GS(s:ByteArray):aJ .lenS [.string s] H=some (.int .i64 s.size):=rfl
theorem GR(n:Nat)(x:Value):aJ (.lenC n) [x] H=some (.int .i64 n):=rfl
theorem Kz(i:Nat)(vs:Array Value):aJ (.ext i) [.tuple vs] H=vs[i]?:=rfl
theorem wE(zero:List Value)(places:List (Nat×Nat))(vs:List Value):aJ (.build zero places) vs H=(buildL zero places vs).map fun l=>.agg l.toArray:=by simp[aJ]
theorem LJ(f:FuncId)(n:Nat)(vs:List Value):aJ (.mkF f n) vs H=some (.func (.func f) (vs.take n).toArray (vs.drop n).toArray):=by simp[aJ]
theorem LK(t:TypeId)(x:Value):aJ (.mkI t) [x] H=some (.iface t x):=rfl
theorem OQ(c:Bool)(a b:Value):aJ .pk [.bool c,a,b] H=some (if c then a else b):=rfl
theorem D3(k k':IntKind)(a b:Int):aJ (.minmax false) [.int k a,.int k' b] H=some (.int k (if b<a then b else a)):=by rfl
theorem xn(k k':IntKind)(a b:Int):aJ (.minmax true) [.int k a,.int k' b] H=some (.int k (if a<b then b else a)):=by rfl
end light
theorem eX{a:Int}(h0:-9223372036854775808<=a)(h1:a<=9223372036854775807):IntKind.i64.wrap a=a:=by
 grind[IntKind.wrap,IntKind.bits,IntKind.signed]
theorem wk{a:Int}(h0:0<=a)(h1:a<=18446744073709551615):IntKind.u64.wrap a=a:=by
 grind[IntKind.wrap,IntKind.bits,IntKind.signed]
theorem Ha{a:Int}(h0:0<=a)(h1:a<=255):IntKind.u8.wrap a=a:=by
 grind[IntKind.wrap,IntKind.bits,IntKind.signed]
section exprs
variable {S:List Value}{H:Heap}
def su(c a b:Option (List Value)):Option (List Value):=match c with|some [.bool true]=>a|some [.bool false]=>b|_=>none
theorem OB(c a b:E):ev S H (.pick c a b)=su (ev S H c) (ev S H a) (ev S H b):=rfl
theorem Gq(a b:Option (List Value)):su (some [.bool true]) a b=a:=rfl
theorem Gm(a b:Option (List Value)):su (some [.bool false]) a b=b:=rfl
theorem BK(t u:Bool):su (some [.bool t]) (some [.bool u]) (some [.bool false])=some [.bool (t&&u)]:=by cases t<;>rfl
theorem Dv(t u:Bool):su (some [.bool t]) (some [.bool true]) (some [.bool u])=some [.bool (t || u)]:=by cases t<;>rfl
theorem Gp(t:Bool)(k:IntKind)(x y:Int):su (some [.bool t]) (some [.int k x]) (some [.int k y])=some [.int k (if t=true then x else y)]:=by cases t<;>rfl
theorem rZ{p:Prop}[Decidable p](x y:Value):(if p then some [x] else some [y])=some [if p then x else y]:=by split<;>rfl
theorem DU{p:Prop}[Decidable p](x y:Bool):(if p then Value.bool x else Value.bool y)=Value.bool (if p then x else y):=by split<;>rfl
theorem Fy{p:Prop}[Decidable p](k:IntKind)(x y:Int):(if p then Value.int k x else Value.int k y)=Value.int k (if p then x else y):=by split<;>rfl
end exprs
theorem uy{cp:FuncId->Option CF}{lo:Nat}{l:List (Nat×E)}{chk:List E}{dst:Option Nat}{o:HOp}{a:E}{Q:bz}{S:List Value}{H:Heap}{vs:List (Nat×Value)}{xs:List Value}{v:Value}{H':Heap}(hcall:o.isCall=false)(h:evSets S H l=some vs)(hc:evChk S H chk=true)(ha:ev S H a=some xs)
  (ho:dP lo o xs H=some (v,H')) {S':List Value} (hS:setD (setAll S vs) dst v=S') (k:Q .normal S' H'):wpS cp lo (.hv l chk [] dst o a) Q S H:=by
 subst hS;refine ru h hc ha ?_;cases o
 case call raise=>simp[HOp.isCall]at hcall
 case callC=>simp[HOp.isCall]at hcall
 all_goals (simp only[wpH];rw[ho];exact k)
section heavy
variable {lo:Nat}{H:Heap}
theorem DM(z:List Value):dP lo (.alloc z) [] H=some (.pointer (some ⟨H.length,0,none⟩),H++[some z]):=rfl
theorem Ki(v:Value):dP lo .box [v] H=some (.pointer (some ⟨H.length,0,none⟩),H++[some v.cells.toList]):=rfl
theorem Fh{z:List Value}{k1 k2:IntKind}{l c:Int}(h:0<=l/\l<=c/\c<=4294967296):dP lo (.mkSl z) [.int k1 l,.int k2 c] H=some (.slice (some ⟨H.length,0,none⟩) l.toNat c.toNat,H++[some (bU z c.toNat)]):=by
 grind[dR,dP,hsem]
theorem DN(z:List Value)(len:Nat)(idx:List Nat)(vs:List Value):dP lo (.bSl z len idx) vs H=(buildL (bU z len) (idx.map fun i=>(i*z.length,z.length)) vs).map fun l=>(.slice (some ⟨H.length,0,none⟩) len len,H++[some l]):=by
 rfl
theorem JR{n b o:Nat}{v:Value}(h:lo<=b):dP lo (.st n) [.pointer (some ⟨b,o,none⟩),v] H=if v.cells.size=n/\oneCells v.cells.toList=true then(match H.get b with|some c=>(if o+v.cells.toList.length<=c.length then some (undef,H.set b (some (putCells c o v.cells.toList))) else none)|none=>none) else none:=by
 grind[dP,hsem,Heap.put]
theorem qY{b o:Nat}{v:Value}(h:lo<=b)(hv:v.cells=#[v])(h1:v.oneCell'=true):dP lo (.st 1) [.pointer (some ⟨b,o,none⟩),v] H=(match H.get b with|some c=>(if o<c.length then some (undef,H.set b (some (c.set o v))) else none)|none=>none):=by
 grind[JR,oneCells,u0]
end heavy
section control
variable {cp:FuncId->Option CF}{lo:Nat}
def L3(M:List Value->Heap->Prop):bz:=fun ex S H=>match ex with | .normal=>M S H|_=>False
theorem L4{M:List Value->Heap->Prop}{S:List Value}{H:Heap}:L3 M .normal S H=M S H:=rfl
theorem eI{a b:Stm}{Q:bz}{S:List Value}{H:Heap}(M:List Value->Heap->Prop)(h1:wpS cp lo a (L3 M) S H)(h2:∀S' H',M S' H'->wpS cp lo b Q S' H'):wpS cp lo a (uf cp lo b Q) S H:=
 h1.mono fun ex S H h=>by
  cases ex with
  | normal=>exact h2 S H h
  | exit i=>exact h.elim
  | ret=>exact h.elim
theorem y6{a b:Stm}{i:Nat}{Q:bz}{S:List Value}{H:Heap}(M:List Value->Heap->Prop)(h1:wpS cp lo a (iQ i (L3 M)) S H)(h2:∀S' H',M S' H'->wpS cp lo b Q S' H'):wpS cp lo a (iQ i (uf cp lo b Q)) S H:=
 h1.mono fun ex S H h=>by
  cases ex with
  | normal=>exact h2 S H h
  | exit j=>
   simp only[kT]at h ⊢;split at h
   ·rename_i e;rw[if_pos e];exact h2 S H h
   ·exact h.elim
  | ret=>exact h.elim
def Aw(M:List Value->Heap->Prop)(Q:bz):bz:=fun ex S H=>match ex with | .normal=>M S H|ex=>Q ex S H
theorem L5{M:List Value->Heap->Prop}{Q:bz}{S:List Value}{H:Heap}:Aw M Q .normal S H=M S H:=rfl
theorem Dd{M:List Value->Heap->Prop}{Q:bz}{i:Nat}{S:List Value}{H:Heap}:Aw M Q (.exit i) S H=Q (.exit i) S H:=rfl
theorem L6{M:List Value->Heap->Prop}{Q:bz}{S:List Value}{H:Heap}:Aw M Q .ret S H=Q .ret S H:=rfl
theorem lM{a b:Stm}{Q:bz}{S:List Value}{H:Heap}(M:List Value->Heap->Prop)(h1:wpS cp lo a (Aw M Q) S H)(h2:∀S' H',M S' H'->wpS cp lo b Q S' H'):wpS cp lo a (uf cp lo b Q) S H:=
 h1.mono fun ex S H h=>by
  cases ex with
  | normal=>exact h2 S H h
  | exit i=>exact h
  | ret=>exact h
theorem eo{a b:Stm}{i:Nat}{Q:bz}{S:List Value}{H:Heap}(M:List Value->Heap->Prop)(h1:wpS cp lo a (iQ i (Aw M Q)) S H)(h2:∀S' H',M S' H'->wpS cp lo b Q S' H'):wpS cp lo a (iQ i (uf cp lo b Q)) S H:=
 h1.mono fun ex S H h=>by
  cases ex with
  | normal=>exact h2 S H h
  | exit j=>
   simp only[kT]at h ⊢;split at h
   ·rename_i e;rw[if_pos e];exact h2 S H h
   ·rename_i e;rw[if_neg e];exact h
  | ret=>exact h
end control
def bN(l:List Int):List Value:=l.map (.int .i64)
theorem gT(l:List Int):(bN l).length=l.length:=by simp[bN]
theorem Fv{l:List Int}{i:Nat}(h:i<l.length):(bN l)[i]?=some (.int .i64 (l.getD i 0)):=by
 grind[bN]
theorem DR(l:List Int)(i:Nat)(v:Int):(bN l).set i (.int .i64 v)=bN (l.set i v):=by simp[bN]
theorem kj(l m:List Int):bN (l++m)=bN l++bN m:=by simp[bN]
theorem Aj(l:List Int)(n:Nat):(bN l).take n=bN (l.take n):=by simp[bN]
theorem Ai(l:List Int)(n:Nat):(bN l).drop n=bN (l.drop n):=by simp[bN]
theorem sW(l:List Int):oneCells (bN l)=true:=by grind[bN,oneCells,Value.oneCell']
theorem Bb(n:Nat):bU [.int .i64 0] n=bN (List.replicate n 0):=by
 simp_all[bU,bN]
def iR(l:List Bool):List Value:=l.map .bool
theorem AT(l:List Bool):(iR l).length=l.length:=by simp[iR]
theorem Bu{l:List Bool}{i:Nat}(h:i<l.length):(iR l)[i]?=some (.bool (l.getD i false)):=by
 grind[iR]
theorem AU(l:List Bool)(i:Nat)(v:Bool):(iR l).set i (.bool v)=iR (l.set i v):=by simp[iR]
theorem yX(n:Nat):bU [.bool false] n=iR (List.replicate n false):=by
 simp_all[bU,iR]
theorem uS:oneCells []=true:=rfl
theorem rf(v:Value)(l:List Value):oneCells (v::l)=(v.oneCell'&&oneCells l):=rfl
theorem uR(l m:List Value):oneCells (l++m)=(oneCells l&&oneCells m):=by simp[oneCells]
theorem wy(l:List Bool):oneCells (iR l)=true:=by grind[iR,oneCells,Value.oneCell']
theorem yD(c vs:List Value):putCells c 0 vs=vs++c.drop vs.length:=by simp[putCells]
theorem yE(a:Value)(c:List Value)(o:Nat)(vs:List Value):putCells (a::c) (o+1) vs=a::putCells c o vs:=by
 simp[putCells,Nat.add_right_comm]
theorem Ly(k:IntKind)(n:Int):(Value.int k n).oneCell'=true:=rfl
theorem Gd(b:Bool):(Value.bool b).oneCell'=true:=rfl
theorem MA(s:ByteArray):(Value.string s).oneCell'=true:=rfl
theorem Lz(a:Option Addr):(Value.pointer a).oneCell'=true:=rfl
theorem O1(a:Option Addr)(n m:Nat):(Value.slice a n m).oneCell'=true:=rfl
def contig:Nat->List (Nat×Nat)->Nat->Bool
 | off,[],n=>off==n
 | off,(o,s)::r,n=>o==off&&contig (off+s) r n
def sizesOK:List (Nat×Nat)->List Value->Bool
 | [],[]=>true
 | (_,s)::r,v::vs=>v.cells.size==s&&sizesOK r vs
 | _,_=>false
theorem kV:∀(places:List (Nat×Nat)) (vs pre zero:List Value),contig pre.length places (pre.length+zero.length)=true->sizesOK places vs=true->buildL (pre++zero) places vs=some (pre++vs.flatMap (fun v=>v.cells.toList))
 | [],[],pre,zero,h,_=>by
  grind[contig,buildL]
 | [],_::_,_,_,_,h=>by grind[sizesOK]
 | _::_,[],_,_,_,h=>by grind[sizesOK]
 | (o,s)::r,v::vs,pre,zero,h,hs=>by
  simp only[contig,ac₀,beq_iff_eq]at h;simp only[sizesOK,ac₀,beq_iff_eq]at hs;obtain⟨rfl,h⟩:=h;have hle:s<=zero.length:=by
   have:∀(r:List (Nat×Nat)) (a n:Nat),contig a r n=true->a<=n:=by
    intro r
    induction r with
    | nil=>grind[contig]
    | cons x r ih=>
     grind[contig]
   grind
  have hp:putCells (pre++zero) pre.length v.cells.toList=(pre++v.cells.toList)++zero.drop s:=by
   grind[putCells,List.drop_append,List.drop_of_length_le]
  simp only[buildL];rw[if_pos ⟨hs.1,by simp;omega⟩,hp,kV r vs (pre++v.cells.toList) (zero.drop s) ?_ hs.2]
  all_goals grind
theorem Ao{H:Heap}{zero:List Value}{places:List (Nat×Nat)}{vs:List Value}(h:contig 0 places zero.length=true)(hs:sizesOK places vs=true):aJ (.build zero places) vs H=some (.agg (vs.flatMap (fun v=>v.cells.toList)).toArray):=by
 have:=kV places vs [] zero (by simpa using h) hs
 grind[wE]
theorem Ap{H:Heap}(zero:List Value)(places:List (Nat×Nat))(vs:List Value):aJ (.build zero places) vs H=match contig 0 places zero.length&&sizesOK places vs with|true=>some (.agg (vs.flatMap (fun v=>v.cells.toList)).toArray)|false=>(buildL zero places vs).map fun l=>.agg l.toArray:=by
 grind[Ao,wE]
theorem Ff{lo:Nat}{H:Heap}{z:List Value}{len:Nat}{idx:List Nat}{vs:List Value}(h:contig 0 (idx.map fun i=>(i*z.length,z.length)) (bU z len).length=true)(hs:sizesOK (idx.map fun i=>(i*z.length,z.length)) vs=true):dP lo (.bSl z len idx) vs H=some (.slice (some ⟨H.length,0,none⟩) len len,H++[some (vs.flatMap (fun v=>v.cells.toList))]):=by
 have:=kV _ vs [] (bU z len) (by simpa using h) hs
 grind[DN]
theorem Bc(z:List Value)(n:Nat):(bU z n).length=n*z.length:=by
 simp_all[bU]
theorem Fg{lo:Nat}{H:Heap}(z:List Value)(len:Nat)(idx:List Nat)(vs:List Value):dP lo (.bSl z len idx) vs H =
  match contig 0 (idx.map fun i=>(i*z.length,z.length)) (len*z.length)&&sizesOK (idx.map fun i=>(i*z.length,z.length)) vs with
  | true=>some (.slice (some ⟨H.length,0,none⟩) len len,H++[some (vs.flatMap (fun v=>v.cells.toList))])
  | false=>(buildL (bU z len) (idx.map fun i=>(i*z.length,z.length)) vs).map fun l=>(.slice (some ⟨H.length,0,none⟩) len len,H++[some l]):=by
 grind[Ff,Bc,DN]
section heavy
variable {lo:Nat}{H:Heap}
theorem Fj{b o:Nat}{k:IntKind}{n:Int}(h:lo<=b):dP lo (.st 1) [.pointer (some ⟨b,o,none⟩),.int k n] H=(match H.get b with|some c=>(if o<c.length then some (undef,H.set b (some (c.set o (.int k n)))) else none)|none=>none):=qY h rfl rfl
theorem Fi{b o:Nat}{n:Bool}(h:lo<=b):dP lo (.st 1) [.pointer (some ⟨b,o,none⟩),.bool n] H=(match H.get b with|some c=>(if o<c.length then some (undef,H.set b (some (c.set o (.bool n)))) else none)|none=>none):=qY h rfl rfl
theorem Fl{b o:Nat}{a:Option Addr}{n m:Nat}(h:lo<=b):dP lo (.st 1) [.pointer (some ⟨b,o,none⟩),.slice a n m] H=(match H.get b with|some c=>(if o<c.length then some (undef,H.set b (some (c.set o (.slice a n m)))) else none)|none=>none):=qY h rfl rfl
theorem Kj{n b o:Nat}{v:Value}(h:lo<=b)(_:1<n):dP lo (.st n) [.pointer (some ⟨b,o,none⟩),v] H=if v.cells.size=n/\oneCells v.cells.toList=true then(match H.get b with|some c=>(if o+v.cells.toList.length<=c.length then some (undef,H.set b (some (putCells c o v.cells.toList))) else none)|none=>none) else none:=JR h
theorem Fk{b o:Nat}{a:Option Addr}(h:lo<=b):dP lo (.st 1) [.pointer (some ⟨b,o,none⟩),.pointer a] H=(match H.get b with|some c=>(if o<c.length then some (undef,H.set b (some (c.set o (.pointer a)))) else none)|none=>none):=qY h rfl rfl
theorem Fm{b o:Nat}{s:ByteArray}(h:lo<=b):dP lo (.st 1) [.pointer (some ⟨b,o,none⟩),.string s] H=(match H.get b with|some c=>(if o<c.length then some (undef,H.set b (some (c.set o (.string s)))) else none)|none=>none):=qY h rfl rfl
theorem qX{sz:Nat}{z:List Value}{i o n m:Nat}{sp:Option Nat}(hn:0<n/\n<=4294967296):dP lo (.app sz z) [.slice none 0 0,.slice (some ⟨i,o,sp⟩) n m] H =
  (match H.get i with|some c=>(if o+n*sz<=c.length/\oneCells ((c.drop o).take (n*sz))=true then some (.slice (some ⟨H.length,0,some sz⟩) n n,H++[some ((c.drop o).take (n*sz))]) else none)|none=>none):=by
 grind[dP,hsem,Heap.cells,bA,dR]
theorem sU{sz b o len:Nat}{z:List Value}{i o' n m:Nat}{sp:Option Nat}(hlo:lo<=b)(hn:0<n/\len+n<=4294967296):dP lo (.app sz z) [.slice (some ⟨b,o,some sz⟩) len len,.slice (some ⟨i,o',sp⟩) n m] H =
  (match H.get i with|some c=>(if o'+n*sz<=c.length/\oneCells ((c.drop o').take (n*sz))=true then(match H.get b with|some d=>(if o+len*sz<=d.length then some (.slice (some ⟨H.length,0,some sz⟩) (len+n) (len+n),H.set b none++[some ((d.drop o).take (len*sz)++(c.drop o').take (n*sz))]) else none)|none=>none) else none)|none=>none):=by
 simp only[dP,hsem]
 grind[bA,dR,Heap.cells]
theorem DO{sz d o n c a o' m c':Nat}{sp sp':Option Nat}(hlo:lo<=d):dP lo (.cpy sz) [.slice (some ⟨d,o,sp⟩) n c,.slice (some ⟨a,o',sp'⟩) m c'] H =
  (match H.get a with|some ca=>(if o'+min m n*sz<=ca.length/\oneCells ((ca.drop o').take (min m n*sz))=true then(match H.get d with|some cd=>(if o+min m n*sz<=cd.length then some (.int .i64 (min m n:Nat),H.set d (some (putCells cd o ((ca.drop o').take (min m n*sz))))) else none)|none=>none) else none)|none=>none):=by
 simp only[dP,hsem,Heap.cells]
 grind[Heap.put]
theorem ri(l m:List Int)(o:Nat):putCells (bN l) o (bN m)=bN (l.take o++(m++l.drop (o+m.length))):=by
 simp[putCells,bN]
theorem LV{len sz b o:Nat}{args:List Value}{lo' hi mx:Bool}:aJ (.slA len sz lo' hi mx) (.pointer (some ⟨b,o,none⟩)::args) H=(bounds len len lo' hi mx args).map fun(l,h,m)=>.slice (some ⟨b,if m=l then o else o+l*sz,none⟩) (h-l) (m-l):=by rfl
theorem JC{len cap:Nat}{k:IntKind}{h:Int}(h0:0<=h)(h1:h<=cap):bounds len cap false true false [.int k h]=some (0,h.toNat,cap):=by
 grind[bounds,toB]
theorem Nf{len cap:Nat}{k:IntKind}{l:Int}(h0:0<=l)(h1:l<=len):bounds len cap true false false [.int k l]=some (l.toNat,len,cap):=by
 grind[bounds,toB]
theorem FM{len cap:Nat}{k k':IntKind}{l h:Int}(h0:0<=l)(h1:l<=h)(h2:h<=cap):bounds len cap true true false [.int k l,.int k' h]=some (l.toNat,h.toNat,cap):=by
 grind[bounds,toB,List.head?_cons,List.tail_cons]
theorem Ng{len cap:Nat}:bounds len cap false false false []=some (0,len,cap):=rfl
theorem D5{sz b o len cap:Nat}{args:List Value}{lo' hi mx:Bool}:aJ (.sl sz lo' hi mx) (.slice (some ⟨b,o,none⟩) len cap::args) H=(bounds len cap lo' hi mx args).map fun(l,h,m)=>.slice (some ⟨b,if m=l then o else o+l*sz,none⟩) (h-l) (m-l):=by rfl
theorem LW{sz len cap:Nat}{args:List Value}{lo' hi mx:Bool}:aJ (.sl sz lo' hi mx) (.slice none len cap::args) H=(bounds len cap lo' hi mx args).map fun(l,h,m)=>.slice none (h-l) (m-l):=by rfl
theorem D4{sz b o len cap:Nat}{args:List Value}{lo' hi:Bool}:aJ (.sl sz lo' hi false) (.slice (some ⟨b,o,some sz⟩) len cap::args) H=(bounds len cap lo' hi false args).map fun(l,h,m)=>.slice (some ⟨b,o+l*sz,some sz⟩) (h-l) (m-l):=by
 grind[aJ]
end heavy
theorem Es(c:Array Value):(Value.agg c).cells=c:=rfl
theorem Et(k:IntKind)(n:Int):(Value.int k n).cells=#[.int k n]:=rfl
theorem AH(b:Bool):(Value.bool b).cells=#[.bool b]:=rfl
theorem Ew(s:ByteArray):(Value.string s).cells=#[.string s]:=rfl
theorem Eu(a:Option Addr):(Value.pointer a).cells=#[.pointer a]:=rfl
theorem KA(a:Option Addr)(n m:Nat):(Value.slice a n m).cells=#[.slice a n m]:=rfl
theorem QA(f:Fn)(a b:Array Value):(Value.func f a b).cells=#[.func f a b]:=rfl
def evB:=zzi @ev.eq_1 (zzi @ev.eq_2 (zzi @ev.eq_3 (zzi @ev.eq_4 (zzi @ev.eq_5 (zzi @OB (zzi @Gq (zzi @Gm (zzi @BK (zzi @Dv (zzi @Gp (zzi @ev1.eq_1 (zzi @evSets.eq_1 (zzi @evSets.eq_2 (zzi @evChk.eq_1 (zzi @evChk.eq_2 (zzi @evList.eq_1 (zzi @evList.eq_2 (zzi @holds.eq_1 (zzi @holds.eq_2 (zzi @setAll.eq_1 (zzi @setAll.eq_2 (zzi @setD.eq_1 (zzi @setD.eq_2 (zzi @rZ (zzi @DU (zzi @Fy (zzi @if_true.{1} (zzi @if_false.{1} (zzi @Bool.false_eq_true (zzi @decide_eq_true_eq (zzi @decide_true (zzi @decide_false (zzi @not_true (zzi @not_false_iff (zzi @Option.isSome_some.{0} (zzi @Bool.and_true (zzi @Bool.and_self (zzi @eX (zzi @if_pos.{1} (zzi @if_neg.{1} (zzi @and_self (zzi @and_true (zzi @true_and (zzi @DM (zzi @Ki (zzi @Fh (zzi @Fg (zzi @contig.eq_1 (zzi @contig.eq_2 (zzi @sizesOK.eq_1 (zzi @sizesOK.eq_2 (zzi @beq_self_eq_true.{0} (zzi @Nat.zero_mul (zzi @Bool.true_and (zzi @Bool.false_and (zzi @Fj (zzi @Fi (zzi @Fl (zzi @Fk (zzi @Fm (zzi @Kj (zzi @qX (zzi @DO (zzi @ri (zzi @sU (zzi @gT (zzi @Fv (zzi @DR (zzi @sW (zzi @Aj (zzi @Ai (zzi @Bb (zzi @AT (zzi @Bu (zzi @AU (zzi @yX (zzi @LV (zzi @D5 (zzi @LW (zzi @D4 (zzi @JC (zzi @Nf (zzi @FM (zzi @Ng (zzi @uS (zzi @rf (zzi @uR (zzi @wy (zzi @Ly (zzi @Gd (zzi @MA (zzi @Lz (zzi @O1 (zzi @Int.toNat_natCast (zzi @List.all_cons.{0} (zzi @List.all_nil.{0} (zzi @List.toList_toArray.{0} (zzi @List.map_cons.{0,0} (zzi @List.map_nil.{0,0} (zzi @List.getElem?_cons_zero.{0} (zzi @List.getElem?_cons_succ.{0} (zzi @List.cons_append.{0} (zzi @List.nil_append.{0} (zzi @List.append_nil.{0} (zzi @List.set_cons_zero.{0} (zzi @List.set_cons_succ.{0} (zzi @List.replicate_succ.{0} (zzi @List.replicate_zero.{0} (zzi @List.length_cons.{0} (zzi @List.length_nil.{0} (zzi @OO (zzi @Kt (zzi @LX (zzi @LL (zzi @LQ (zzi @LR (zzi @Ku (zzi @OP (zzi @LY (zzi @Ky (zzi @LN (zzi @LI (zzi @LH (zzi @LC (zzi @LA (zzi @LS (zzi @LU (zzi @Kx (zzi @Kw (zzi @GJ (zzi @GK (zzi @LO (zzi @LM (zzi @Kv (zzi @GI (zzi @Ar (zzi @xp (zzi @D2 (zzi @GL (zzi @GM (zzi @nQ (zzi @Aq (zzi @GN (zzi @GO (zzi @LD (zzi @GQ (zzi @LG (zzi @GS (zzi @GR (zzi @Kz (zzi @Ap (zzi @List.flatMap_cons.{0,0} (zzi @List.flatMap_nil.{0,0} (zzi @LJ (zzi @LK (zzi @OQ (zzi @D3 (zzi @xn (zzi @Heap.at.eq_1 (zzi @aK (zzi @bI (zzi @Ad (zzi @Ae (zzi @dN (zzi @aF (zzi @aH (zzi @E2 (zzi @E3 (zzi @yO (zzi @List.append_assoc.{0} (zzi @List.length_append.{0} (zzi @List.length_set.{0} (zzi @List.getElem?_toArray.{0} (zzi @List.size_toArray.{0} (zzi @Option.map_some.{0,0} (zzi @Option.some.injEq.{0} (zzi @buildL.eq_1 (zzi @buildL.eq_2 (zzi @Es (zzi @Et (zzi @AH (zzi @Ew (zzi @Eu (zzi @KA (zzi @QA (zzi @yD (zzi @yE (zzi @List.length_take.{0} (zzi @List.length_drop.{0} (zzi @List.length_replicate.{0} (zzi @wk (zzi @Ha (zzi @List.take_zero.{0} (zzi @List.take_succ_cons.{0} (zzi @List.drop_zero.{0} (zzi @List.drop_succ_cons.{0} (zzi @List.take_nil.{0} (zzi @List.drop_nil.{0} (zzi @Nat.zero_add (zzi @Nat.add_zero (zzi @Nat.mul_one (zzi @Nat.one_mul @Nat.sub_zero))))))))))))))))))))))))))))))))))))))))))))))))))))))))))))))))))))))))))))))))))))))))))))))))))))))))))))))))))))))))))))))))))))))))))))))))))))))))))))))))))))))))))))))))))))))))))))))))))))))))))
def Qw:=zzi @List.length_set.{0} (zzi @List.length_append.{0} (zzi @List.length_cons.{0} @List.length_nil.{0}))
theorem dO{P:Prop}(h:P:=by first|omega|(simp only[Qw];omega)):P:=h
section
variable {cp:FuncId->Option CF}{lo:Nat}
def aB:=zzi @wu (zzi @Bo (zzi @ya (zzi @FK (zzi @KI (zzi @E1 (zzi @E0 (zzi @MR (zzi @Bs (zzi @Bt (zzi @kT (zzi @zO (zzi @GH (zzi @L4 (zzi @L5 (zzi @Dd (zzi @L6 (zzi @if_true.{1} (zzi @if_false.{1} (zzi @setD.eq_1 (zzi @setD.eq_2 (zzi @setAll.eq_1 (zzi @setAll.eq_2 (zzi @List.set_cons_zero.{0} (zzi @List.set_cons_succ.{0} (zzi @Es (zzi @Et (zzi @AH (zzi @Ew (zzi @Eu @KA)))))))))))))))))))))))))))))
end
end Go.Abs
