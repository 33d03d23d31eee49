/- Lemmas. -/
import Derived.Test.YtgiojnobcjnibaaGreatDoorP7
import Derived.ProofKit
import Derived.OpenShut
import Derived.Carry
import Derived.JoinedCond
import Derived.WalkKit
set_option linter.unusedVariables false
set_option linter.unusedSimpArgs false
set_option linter.unusedSectionVars false
namespace Go.Abs
def CLe(callA callB:CallA):Prop:=∀lo f args H r,callA lo f args H=some r→callB lo f args H=some r
def CLeR(callA callB:CallR):Prop:=∀lo f args H r,callA lo f args H=some r→callB lo f args H=some r
theorem CLeR.toRet{a b:CallR}(h:CLeR a b):CLe a.ret b.ret:=fun lo f args H (v,H') e=>eq_ret (h lo f args H _ (ret_eq e))
theorem CLeR.toPan{a b:CallR}(h:CLeR a b):CLe a.pan b.pan:=fun lo f args H (v,H') e=>eq_pan (h lo f args H _ (pan_eq e))
theorem panSem_le{a b:CallR}(hc:CLeR a b){lo:Nat}{o:HOp}{vs:List Value}{H:Heap}{r:Value×Heap}(h:panSem a lo o vs H=some r):panSem b lo o vs H=some r:=by
 unfold panSem at h
 split at h
 ·exact hc.toPan _ _ _ _ _ h
 ·exact h
 ·simp at h
theorem hsem_le{callA callB:CallA}(hc:CLe callA callB){lo:Nat}{o:HOp}{vs:List Value}{H:Heap}{r:Value×Heap}(h:hsem callA lo o vs H=some r):hsem callB lo o vs H=some r:=by
 by_cases hcall:o.isCall=true
 ·cases o<;>simp[HOp.isCall]at hcall
  case callK n=>
   simp only[hsem]at h ⊢
   unfold callKSem at h ⊢
   split at h
   ·rename_i e
    split at h
    ·rename_i v1 H1 hv
     rw[hc _ _ _ _ _ hv];exact h
    ·cases h
   ·cases h
  all_goals
   cases vs with
   | nil=>simp[hsem]at h
   | cons a r=>
    cases a<;>try (simp[hsem]at h;done)
    rename_i fn first cap
    cases fn<;>try (simp[hsem]at h;done)
    simp only[hsem]at h ⊢
    exact hc _ _ _ _ _ h
 ·have hf:o.isCall=false:=by simpa using hcall
  rw[hsem0_eq hf]at h ⊢;exact h
theorem iter_le{f g:List Value→Heap→Out}(hfg:∀S H r,f S H=some r→g S H=some r):∀(n m:Nat),n≤m→∀S H r,iter f n S H=some r→iter g m S H=some r
 | 0,_,_,_,_,_,h=>by simp[iter]at h
 | n+1,0,hm,_,_,_,_=>by omega
 | n+1,m+1,hm,S,H,r,h=>by
  simp only[iter]at h ⊢
  split at h
  ·rename_i S1 H1 h1
   rw[hfg _ _ _ h1]
   exact iter_le hfg n m (by omega) S1 H1 r h
  ·rename_i hne
   rw[hfg _ _ _ h]
   obtain⟨x,S2,B2⟩:=r
   cases x with
   | normal=>exact(hne S2 B2 h).elim
   | exit j=>rfl
   | ret=>rfl
theorem hop_le{f g:List Value→Heap→Out}(hfg:∀S H r,f S H=some r→g S H=some r):∀(n m:Nat),n≤m→∀(x r:Ex×List Value×Heap),hop f n (some x)=some r→hop g m (some x)=some r
 | 0,m,_,(x,S,H),r,h=>by
  cases x with
  | exit j=>
   simp only[hop]at h
   split at h
   ·simp at h
   ·rename_i hj
    cases m<;>simp only[hop,if_neg hj]<;>exact h
  | normal=>cases m<;>exact h
  | ret=>cases m<;>exact h
 | n+1,0,hm,x,r,h=>by omega
 | n+1,m+1,hm,(x,S,H),r,h=>by
  cases x with
  | exit j=>
   simp only[hop]at h ⊢
   split at h
   ·rename_i hj
    rw[if_pos hj]
    cases hf:f (.int .i64 ((j-gotoBase:Nat):Int)::S) H with
    | none=>rw[hf]at h;cases n<;>simp[hop]at h
    | some o1=>
     rw[hf]at h
     rw[hfg _ _ _ hf]
     exact hop_le hfg n m (by omega) o1 r h
   ·rename_i hj
    rw[if_neg hj];exact h
  | normal=>exact h
  | ret=>exact h
theorem exec_le{callA callB:CallR}(hc:CLeR callA callB){lo n m:Nat}(hn:n≤m):∀(s:Stm) (S:List Value) (H:Heap) r,exec callA lo n s S H=some r→exec callB lo m s S H=some r
 | .skip,S,H,r,h=>h
 | .exit i,S,H,r,h=>h
 | .ret,S,H,r,h=>h
 | .sets l chk,S,H,r,h=>by simpa only[exec]using h
 | .alt l s q,S,H,r,h=>by
  simp only[exec]at h
  split at h
  ·simp only[exec]
   split at h
   ·rename_i ht
    rw[if_pos ht];exact exec_le hc hn s _ H r h
   ·rename_i ht
    rw[if_neg ht];exact exec_le hc hn q _ H r h
  ·simp at h
 | .scope b alts,S,H,r,h=>by
  simp only[exec]at h ⊢
  cases hb:exec callA lo n b S H with
  | none=>rw[hb]at h;cases n<;>simp[hop]at h
  | some o1=>
   rw[hb]at h
   rw[exec_le hc hn b S H o1 hb]
   exact hop_le (fun S H r h=>exec_le hc hn alts S H r h) n m hn o1 r h
 | .dist a b,S,H,r,h=>by simpa only[exec]using h
 | .hv l chk pc dst op a,S,H,r,h=>by
  simp only[exec]at h ⊢
  split at h
  ·rename_i vs hvs
   split at h
   ·rename_i hck
    simp only[hck,if_true]
    split at h
    ·split at h
     ·split at h
      ·rename_i hv
       rw[hsem_le hc.toRet hv];exact h
      ·split at h
       ·rename_i hv
        have:=panSem_le hc hv
        rw[pan_no this]
        simp only
        rw[this];exact h
       ·simp at h
     ·simp at h
    ·exact h
    ·simp at h
   ·simp at h
  ·simp at h
 | .seq a b,S,H,r,h=>by
  simp only[exec]at h ⊢
  split at h
  ·rename_i S1 H1 h1
   rw[exec_le hc hn a _ _ _ h1]
   exact exec_le hc hn b _ _ _ h
  ·rename_i hne
   rw[exec_le hc hn a _ _ _ h]
   obtain⟨x,S2,B2⟩:=r
   cases x with
   | normal=>exact(hne S2 B2 h).elim
   | exit j=>rfl
   | ret=>rfl
 | .cond c a b,S,H,r,h=>by
  simp only[exec]at h ⊢
  split at h
  ·exact exec_le hc hn a _ _ _ h
  ·exact exec_le hc hn b _ _ _ h
  ·simp at h
 | .block i b,S,H,r,h=>by
  simp only[exec]at h ⊢
  split at h
  ·rename_i j S1 H1 h1
   rw[exec_le hc hn b _ _ _ h1];exact h
  ·rename_i hne
   rw[exec_le hc hn b _ _ _ h]
   obtain⟨x,S2,B2⟩:=r
   cases x with
   | exit j=>exact(hne j S2 B2 h).elim
   | normal=>rfl
   | ret=>rfl
 | .loop b,S,H,r,h=>by
  simp only[exec]at h ⊢
  exact iter_le (fun S H r h=>exec_le hc hn b S H r h) n m hn S H r h
theorem runR_le{cp:FuncId→Option CF}{a b:CallR}(hc:CLeR a b){lo n m:Nat}(hn:n≤m){g:FuncId}{args:List Value}{rv:Value}{H H':Heap}(h:runR cp a lo n g args rv H=some H'):runR cp b lo m g args rv H=some H':=by
 unfold runR at h ⊢
 split at h<;>try (simp at h;done)
 split at h<;>try (simp at h;done)
 rename_i hk
 split at h<;>try (simp at h;done)
 rename_i hl
 simp only[hk,if_pos hl]
 split at h<;>try (simp at h;done)
 all_goals (rename_i hx;rw[exec_le hc hn _ _ _ _ hx];exact h)
theorem runD_le{cp:FuncId→Option CF}{a b:CallR}(hc:CLeR a b){lo n m j:Nat}(hn:n≤m){res:List E}{body mid rest:Stm}{S:List Value}{H:Heap}{r:(Value ⊕ Value)×Heap}(h:runD cp a lo n res body mid j rest S H=some r):runD cp b lo m res body mid j rest S H=some r:=by
 unfold runD at h
 split at h
 ·rename_i hx;simp only[runD,exec_le hc hn _ _ _ _ hx];exact h
 ·rename_i hx;simp only[runD,exec_le hc hn _ _ _ _ hx];exact h
 ·rename_i hx
  simp only[runD,exec_le hc hn _ _ _ _ hx]
  split at h<;>try (simp at h;done)
  rename_i hm
  simp only[exec_le hc hn _ _ _ _ hm]
  split at h<;>try (simp at h;done)
  rename_i hg
  split at h
  ·rename_i hr
   simp only[exec_le hc hn _ _ _ _ hr]
   split at h<;>try (simp at h;done)
   rename_i hrr
   simp only[runR_le hc hn hrr];exact h
  ·rename_i hr
   simp only[exec_le hc hn _ _ _ _ hr]
   split at h<;>try (simp at h;done)
   rename_i hrr
   simp only[runR_le hc hn hrr];exact h
  ·rename_i hr
   simp only[exec_le hc hn _ _ _ _ hr]
   split at h<;>try (simp at h;done)
   rename_i hi
   split at h<;>try (simp at h;done)
   rename_i hrr
   simp only[if_pos hi,runR_le hc hn hrr];exact h
  ·simp at h
 ·simp at h
theorem run_le{cp:FuncId→Option CF}:∀{n m:Nat},n≤m→CLeR (run cp n) (run cp m)
 | 0,_,_=>fun _ _ _ _ _ h=>by simp[run]at h
 | n+1,0,hm=>by omega
 | n+1,m+1,hm=>fun lo f args H r h=>by
  simp only[run]at h ⊢
  split at h
  ·split at h
   ·rename_i hl
    simp only[hl,if_true]
    split at h
    ·split at h
     ·rename_i S1 H1 h1
      rw[exec_le (run_le (by omega)) (by omega) _ _ _ _ h1];exact h
     ·rename_i S1 H1 h1
      rw[exec_le (run_le (by omega)) (by omega) _ _ _ _ h1];exact h
     ·rename_i j q S1 H1 h1
      rw[exec_le (run_le (by omega)) (by omega) _ _ _ _ h1];exact h
     ·simp at h
    ·exact runD_le (run_le (by omega)) (by omega) h
    ·simp at h
    ·exact h
   ·simp at h
  ·simp at h
theorem ev_of_run{cp:FuncId→Option CF}{lo:Nat}{f:FuncId}{args:List Value}{H:Heap}{v:Value}{H':Heap}(n:Nat)(h:run cp n lo f args H=some (.inl v,H')){R:Value→Heap→Prop}(hR:R v H'):Ev cp lo f args H R:=
 ⟨n,v,H',fun _ hm=>run_le hm _ _ _ _ _ h,hR⟩
def mv0(n:Nat):Mv:=⟨n,0,0,Nat.zero_le _,fun h=>by simp at h⟩
theorem mv0_f(n i:Nat):(mv0 n).f i=n+i:=by simp[mv0,Mv.f]
theorem ev_moved{cp:FuncId→Option CF}(hp:∀f cf,cp f=some cf→plainCF cf=true){f:FuncId}{args:List Value}(ha:args.all plainV=true){v:Value}{H0:Heap}(n:Nat)(h:run cp n 0 f args []=some (.inl v,H0)){lo:Nat}{H:Heap}(hlo:lo≤H.length){R:Value→Heap→Prop}
  (hR:∀v' H',Sh (mv0 H.length) v v'→HSh (mv0 H.length) H0 H'→(∀i,i<H.length→H'[i]?=H[i]?)→R v' H'):Ev cp lo f args H R:=by
 have hargs:LSh (mv0 H.length) args args:=by
  refine⟨rfl,fun j x y hx hy=>?_⟩
  rw[hx]at hy;cases hy
  exact plainV_sh (List.all_eq_true.1 ha _ (List.mem_of_getElem? hx))
 obtain⟨v',B',h1,h2,h3⟩:=run_sh hp n 0 lo f args args [] H _ H0 ⟨Nat.le_refl _,by simp only[mv0];omega⟩ hargs ⟨by simp[mv0],fun i c hc=>by simp[Heap.get]at hc⟩ h
 cases v' with
 | inr u=>exact h2.elim
 | inl v'=>
 exact ev_of_run n h1 (hR v' B' h2 h3.sh h3.pre)
inductive Ty where
 | bool
 | int (k:IntKind)
 | str
 | rcd (l:List Ty)
 | arr (n:Nat) (e:Ty)
 | sl (e:Ty)
mutual
def Ty.size:Ty→Nat
 | .rcd l=>Ty.sizes l
 | .arr n e=>n*Ty.size e
 | _=>1
def Ty.sizes:List Ty→Nat
 | []=>0
 | t::r=>Ty.size t+Ty.sizes r
end
mutual
def Ty.flat:Ty→Bool
 | .rcd l=>Ty.flats l
 | .arr _ e=>Ty.flat e
 | .sl _=>false
 | _=>true
def Ty.flats:List Ty→Bool
 | []=>true
 | t::r=>Ty.flat t&&Ty.flats r
end
mutual
def Ty.shallow:Ty→Bool
 | .rcd l=>Ty.shallows l
 | .arr _ e=>Ty.flat e
 | .sl e=>Ty.flat e
 | _=>true
def Ty.shallows:List Ty→Bool
 | []=>true
 | t::r=>Ty.shallow t&&Ty.shallows r
end
def tysOf(P:Program)(g:TypeId→Option Ty):Nat→List Field→Option (List Ty)
 | _,[]=>some []
 | off,f::r=>match g f.type with
  | some ty=>if f.offset=off∧P.cellsOf f.type=ty.size then
    match tysOf P g (off+ty.size) r with
    | some l=>some (ty::l)
    | none=>none
   else none
  | none=>none
def tyOf(P:Program):Nat→TypeId→Option Ty
 | 0,_=>none
 | d+1,t=>match P.underlying t with
  | some .bool=>some .bool
  | some (.int k)=>some (.int k)
  | some .string=>some .str
  | some (.slice e)=>match tyOf P d e with
   | some ty=>if P.cellsOf e=ty.size∧0<ty.size then some (.sl ty) else none
   | none=>none
  | some (.struct fs)=>match tysOf P (tyOf P d) 0 fs.toList with
   | some l=>if P.cellsOf t=Ty.sizes l then some (.rcd l) else none
   | none=>none
  | some (.array n e)=>match tyOf P d e with
   | some ty=>if P.cellsOf e=ty.size∧P.cellsOf t=n*ty.size then some (.arr n ty) else none
   | none=>none
  | _=>none
def HasN(p:List Value→Prop):Nat→List Value→Prop
 | 0,vs=>vs=[]
 | n+1,vs=>∃a b,vs=a++b∧p a∧HasN p n b
mutual
def Has(B:Nat)(H:Heap):Ty→List Value→Prop
 | .bool,vs=>∃b,vs=[.bool b]
 | .int k,vs=>∃n,vs=[.int k n]∧k.min≤n∧n≤k.max
 | .str,vs=>∃s:ByteArray,vs=[.string s]∧s.size≤B
 | .rcd l,vs=>HasAll B H l vs
 | .arr n e,vs=>HasN (Has B H e) n vs
 | .sl e,vs=>vs=[.slice none 0 0]∨∃i len cap c,vs=[.slice (some ⟨i,0,none⟩) len cap]∧len≤cap∧cap≤B∧i<H.length∧H.get i=some c∧HasN (Has B H e) cap c
def HasAll(B:Nat)(H:Heap):List Ty→List Value→Prop
 | [],vs=>vs=[]
 | t::r,vs=>∃a b,vs=a++b∧Has B H t a∧HasAll B H r b
end
theorem HasN.mono{p q:List Value→Prop}(h:∀vs,p vs→q vs):∀(n:Nat) (vs:List Value),HasN p n vs→HasN q n vs
 | 0,_,e=>e
 | n+1,_,⟨a,b,e,h1,h2⟩=>⟨a,b,e,h _ h1,HasN.mono h n b h2⟩
def Longer(H H':Heap):Prop:=∃r,H'=H++r
theorem Longer.refl(H:Heap):Longer H H:=⟨[],by simp⟩
theorem Longer.trans{H H1 H2:Heap}(a:Longer H H1)(b:Longer H1 H2):Longer H H2:=by
 obtain⟨r,rfl⟩:=a;obtain⟨s,rfl⟩:=b;exact⟨r++s,by simp⟩
theorem Longer.get{H H':Heap}(h:Longer H H'){i:Nat}{c:List Value}(hc:H.get i=some c):H'.get i=some c:=by
 obtain⟨r,rfl⟩:=h
 have hl:=Heap.get_lt hc
 rw[get_of]at hc ⊢
 rw[List.getElem?_append_left hl];exact hc
theorem Longer.len{H H':Heap}(h:Longer H H'):H.length≤H'.length:=by
 obtain⟨r,rfl⟩:=h;simp
mutual
theorem Has.mono{B:Nat}{H H':Heap}(h:Longer H H'):∀(t:Ty) (vs:List Value),Has B H t vs→Has B H' t vs
 | .bool,_,e=>by simpa only[Has]using e
 | .int k,_,e=>by simpa only[Has]using e
 | .str,_,e=>by simpa only[Has]using e
 | .rcd l,vs,e=>by simp only[Has]at e ⊢;exact HasAll.mono h l vs e
 | .arr n e,vs,x=>by simp only[Has]at x ⊢;exact HasN.mono (fun vs=>Has.mono h e vs) n vs x
 | .sl e,vs,x=>by
  simp only[Has]at x ⊢
  rcases x with x|⟨i,len,cap,c,h1,h2,h3,h4,h5,h6⟩
  ·exact .inl x
  ·exact .inr ⟨i,len,cap,c,h1,h2,h3,Nat.lt_of_lt_of_le h4 h.len,h.get h5,HasN.mono (fun vs=>Has.mono h e vs) cap c h6⟩
theorem HasAll.mono{B:Nat}{H H':Heap}(h:Longer H H'):∀(l:List Ty) (vs:List Value),HasAll B H l vs→HasAll B H' l vs
 | [],_,e=>by simpa only[HasAll]using e
 | t::r,vs,e=>by
  simp only[HasAll]at e ⊢
  obtain⟨a,b,h1,h2,h3⟩:=e
  exact⟨a,b,h1,Has.mono h t a h2,HasAll.mono h r b h3⟩
end
mutual
def Fits{X:Type}(B:Nat):DataW X→Prop
 | .lit (.string l)=>l.length≤B
 | .slice es sp=>es.length+sp.length≤B∧FitsAll B es∧FitsAll B sp
 | .agg ds=>FitsAll B ds
 | _=>True
def FitsAll{X:Type}(B:Nat):List (DataW X)→Prop
 | []=>True
 | d::r=>Fits B d∧FitsAll B r
end
theorem FitsAll.mem{X:Type}{B:Nat}:∀{l:List (DataW X)} {d:DataW X},FitsAll B l→d ∈ l→Fits B d
 | [],_,_,h=>by simp at h
 | x::r,d,h,hm=>by
  simp only[FitsAll]at h
  rcases List.mem_cons.1 hm with rfl|hm
  ·exact h.1
  ·exact FitsAll.mem h.2 hm
abbrev Small{X:Type}(B:Nat)(d:DataW X):Prop:=maxLen≤B∨Fits B d
section
variable {X:Type}{enc:TypeId×Value→X}{P:Program}{w:World}{B:Nat}
abbrev trd(enc:TypeId×Value→X)(P:Program)(w:World):=DataW.trod enc P w 0 (fun _=>true) true
theorem wf_has{k:IntKind}{n:Int}(h:(Lit.int k n).wf=true):k.min≤n∧n≤k.max:=by
 simpa[Lit.wf]using h
structure FlatOK (B:Nat)(H:Heap)(ty:Ty)(cs:List Value):Prop where
 has:Has B H ty cs
 plain:cs.all plain1=true
 len:cs.length=ty.size
theorem hasN_of{p:List Value→Prop}(k:Nat):∀(n:Nat) (cs:List Value),cs.length=n*k→(∀i,i<n→p ((cs.drop (i*k)).take k))→HasN p n cs
 | 0,cs,hl,_=>by simp only[HasN];simpa using hl
 | n+1,cs,hl,h=>by
  refine⟨cs.take k,cs.drop k,(List.take_append_drop k cs).symm,by simpa using h 0 (by omega),hasN_of k n (cs.drop k) (by simp[hl,Nat.succ_mul]) (fun i hi=>?_)⟩
  have:=h (i+1) (by omega)
  rw[List.drop_drop]
  rw[show k+i*k=(i+1)*k by rw[Nat.succ_mul];omega]
  exact this
theorem plainAll_of(k:Nat):∀(n:Nat) (cs:List Value),cs.length=n*k→(∀i,i<n→((cs.drop (i*k)).take k).all plain1=true)→cs.all plain1=true
 | 0,cs,hl,_=>by
  have:cs=[]:=by simpa using hl
  subst this;rfl
 | n+1,cs,hl,h=>by
  have h1:(cs.take k).all plain1=true:=by simpa using h 0 (by omega)
  have h2:(cs.drop k).all plain1=true:=plainAll_of k n (cs.drop k) (by simp[hl,Nat.succ_mul]) (fun i hi=>by
   have:=h (i+1) (by omega)
   rw[List.drop_drop]
   rw[show k+i*k=(i+1)*k by rw[Nat.succ_mul];omega]
   exact this)
  rw[←List.take_append_drop k cs,List.all_append,h1,h2];rfl
theorem lift_flat(H:Heap):∀(d:Nat) (t:TypeId) (ty:Ty) (fuel:Nat) (cs:List Value) (x:DataW X×List MemPlace),tyOf P d t=some ty→ty.flat=true→trd enc P w fuel t cs=some x→Small B x.1→FlatOK B H ty cs
 | 0,_,_,_,_,_,h,_,_,_=>by simp[tyOf]at h
 | d+1,t,ty,fuel,cs,x,hty,hf,hx,hB=>by
  simp only[tyOf]at hty
  split at hty
  ·rename_i hu
   cases hty
   obtain⟨b,rfl,rfl⟩:=DataW.trod_bool hu hx
   exact⟨by simp only[Has];exact⟨b,rfl⟩,rfl,rfl⟩
  ·rename_i k hu
   cases hty
   obtain⟨n,rfl,rfl,hw⟩:=DataW.trod_int hu hx
   exact⟨by simp only[Has];exact⟨n,rfl,wf_has hw⟩,rfl,rfl⟩
  ·rename_i hu
   cases hty
   obtain⟨s,rfl,rfl,hw⟩:=DataW.trod_string hu hx
   refine⟨?_,rfl,rfl⟩
   simp only[Has]
   refine⟨s,rfl,?_⟩
   rcases hB with hB|hB
   ·omega
   ·have hB':s.data.toList.length≤B:=by
     rw[Fits.eq_def]at hB;exact hB
    rw[Array.length_toList]at hB';exact hB'
  ·rename_i e hu
   split at hty
   ·split at hty
    ·cases hty;simp[Ty.flat]at hf
    ·simp at hty
   ·simp at hty
  ·rename_i fs hu
   split at hty
   ·rename_i l hl
    split at hty
    ·rename_i hsz
     cases hty
     obtain⟨xs,n,rfl,rfl,hlen,hxl,hxs⟩:=DataW.trod_struct hu hx
     simp only[Ty.flat]at hf
     have key:∀(fs':List Field) (off i0:Nat) (l:List Ty),tysOf P (tyOf P d) off fs'=some l→Ty.flats l=true→cs.length=off+Ty.sizes l→(∀i f,fs'[i]?=some f→trd enc P w n f.type ((cs.drop f.offset).take (P.cellsOf f.type))=xs[i0+i]?)→(i0+fs'.length≤xs.length) →
       HasAll B H l (cs.drop off)∧(cs.drop off).all plain1=true:=by
      intro fs'
      induction fs' with
      | nil=>
       intro off i0 l hl _ hle _ _
       simp only[tysOf]at hl;cases hl
       have:cs.drop off=[]:=by simp[Ty.sizes]at hle ⊢;omega
       rw[this]
       exact⟨by simp only[HasAll],rfl⟩
      | cons f r ih=>
       intro off i0 l hl hfl hle hget hbnd
       simp only[tysOf]at hl
       split at hl
       ·rename_i ty hty
        split at hl
        ·rename_i hc
         split at hl
         ·rename_i l' hl'
          cases hl
          simp only[Ty.flats,Bool.and_eq_true]at hfl
          simp only[Ty.sizes]at hle
          have h0:=hget 0 f rfl
          rw[hc.1,hc.2]at h0
          simp only[List.length_cons]at hbnd
          have hlt:i0+0<xs.length:=by omega
          rw[List.getElem?_eq_getElem hlt]at h0
          have hsm:Small B (xs[i0+0]).1:=by
           rcases hB with hB|hB
           ·exact .inl hB
           ·simp only[Fits]at hB
            exact .inr (hB.mem (List.mem_map.2 ⟨_,List.getElem_mem hlt,rfl⟩))
          have f0:=lift_flat H d f.type ty n _ _ hty hfl.1 h0 hsm
          have f1:=ih (off+ty.size) (i0+1) l' hl' hfl.2 (by omega) (fun i g hg=>by
           have:=hget (i+1) g (by simpa using hg)
           rw[show i0+1+i=i0+(i+1) by omega];exact this) (by omega)
          have hsplit:cs.drop off=(cs.drop off).take ty.size++cs.drop (off+ty.size):=by
           rw[←List.drop_drop,List.take_append_drop]
          refine⟨?_,?_⟩
          ·simp only[HasAll]
           exact⟨_,_,hsplit,f0.has,f1.1⟩
          ·rw[hsplit,List.all_append,f0.plain,f1.2];rfl
         ·simp at hl
        ·simp at hl
       ·simp at hl
     have:=key fs.toList 0 0 l hl hf (by rw[hlen,hsz];omega) (fun i f hf'=>by simpa using hxs i f (by simpa using hf')) (by simp[hxl])
     refine⟨by simp only[Has];simpa using this.1,by simpa using this.2,by rw[hlen,hsz];simp only[Ty.size]⟩
    ·simp at hty
   ·simp at hty
  ·rename_i n e hu
   split at hty
   ·rename_i ty' hty'
    split at hty
    ·rename_i hc
     cases hty
     simp only[Ty.flat]at hf
     obtain⟨xs,m,rfl,rfl,hlen,hxl,hxs⟩:=DataW.trod_array hu hx
     have one:∀i,i<n→FlatOK B H ty' ((cs.drop (i*ty'.size)).take ty'.size):=by
      intro i hi
      have h0:=hxs i hi
      rw[hc.1]at h0
      have hlt:i<xs.length:=by omega
      rw[List.getElem?_eq_getElem hlt]at h0
      refine lift_flat H d e ty' m _ _ hty' hf h0 ?_
      rcases hB with hB|hB
      ·exact .inl hB
      ·simp only[Fits]at hB
       exact .inr (hB.mem (List.mem_map.2 ⟨_,List.getElem_mem hlt,rfl⟩))
     have hl':cs.length=n*ty'.size:=by rw[hlen,hc.2]
     refine⟨by simp only[Has];exact hasN_of ty'.size n cs hl' (fun i hi=>(one i hi).has),plainAll_of ty'.size n cs hl' (fun i hi=>(one i hi).plain),by simp only[Ty.size];exact hl'⟩
    ·simp at hty
   ·simp at hty
  ·simp at hty
structure HR (φ:Map)(G:Nat)(H:Heap)(w:World):Prop where
 cell:∀i c,H.get i=some c→∃p arr ty fr,φ.c i=some p∧w.heap[p.b]?=some (.cells arr ty fr)∧arr.size=p.s+p.n∧c.length≤p.n∧(∀(j:Nat) v,c[j]?=some v→∃u,arr[p.s+j]?=some u∧VRel φ v u)
 dom:∀i p,φ i=some p→i<H.length
 glob:∀g,g<G→∃n,φ g=some ⟨g,0,n,0⟩
 plc:∀i p,φ i=some p→p.b<w.heap.size
theorem HR.rel{φ:Map}{G:Nat}{H:Heap}(h:HR φ G H w):HRel φ H.length G H w:=
 ⟨fun i c hc=>by
  obtain⟨p,arr,ty,fr,h1,h2,h3,h4,h5⟩:=h.cell i c hc
  exact⟨p,Map.of_lt h1,.inl ⟨(Map.of_some.1 h1).2,arr,ty,fr,h2,h3,h4,h5,fun hle=>absurd (Heap.get_lt hc) (by omega)⟩⟩,
  fun i j c d p q hc _ _ _ hle=>absurd (Heap.get_lt hc) (by omega),h.dom,h.glob,h.plc⟩
def ZOK(w:World)(cs:List Value):Prop:=∀a len,Value.slice (some a) len 0 ∈ cs→a.spot=none∧∃c t f,w.heap[a.block]?=some (.cells c t f)∧a.off≤c.size
theorem ZOK.sub{cs ds:List Value}(h:ZOK w cs)(hs:∀v ∈ ds,v ∈ cs):ZOK w ds:=fun a len hm=>h a len (hs _ hm)
structure Lifted (φ:Map)(G:Nat)(H:Heap)(w:World)(B:Nat)(ty:Ty)(cs:List Value)(φ':Map)(H':Heap)(vs:List Value):Prop where
 hr:HR φ' G H' w
 le:φ.le φ'
 longer:Longer H H'
 has:Has B H' ty vs
 rel:LRel φ' vs cs
theorem Has.plain_lift{φ:Map}{G:Nat}{H:Heap}{ty:Ty}{cs:List Value}(hr:HR φ G H w)(h:FlatOK B H ty cs):Lifted φ G H w B ty cs φ H cs:=
 ⟨hr,Map.le_refl φ,Longer.refl H,h.has,plainAll_rel φ h.plain⟩
theorem HR.add{φ:Map}{G:Nat}{H:Heap}(hr:HR φ G H w)(_:G≤H.length){b s:Nat}{arr:Array Value}{ty:TypeId}{fr:Nat×Nat}(hb:w.heap[b]?=some (.cells arr ty fr)){c:List Value}(hs:s+c.length≤arr.size)
  (hc:∀(j:Nat) v,c[j]?=some v→arr[s+j]?=some v∧plain1 v=true):HR (φ.set H.length ⟨b,s,arr.size-s,0⟩) G (H++[some c]) w:=by
 have hle:φ.le (φ.set H.length ⟨b,s,arr.size-s,0⟩):=by
  intro i p hp
  have:=hr.dom i p hp
  simp only[Map.set];rw[if_neg (by omega)];exact hp
 refine⟨fun i d hd=>?_,fun i p hp=>?_,fun g hg=>?_,fun i p hp=>?_⟩
 ·rw[get_of]at hd
  by_cases hi:i<H.length
  ·rw[List.getElem?_append_left hi]at hd
   obtain⟨p,a,t,f,h1,h2,h3,h4,h5⟩:=hr.cell i d (get_of.2 hd)
   exact⟨p,a,t,f,Map.of_le hle 0 _ _ h1,h2,h3,h4,fun j v hv=>by obtain⟨u,e1,e2⟩:=h5 j v hv;exact⟨u,e1,e2.mono hle⟩⟩
  ·have hlt:=(List.getElem?_eq_some_iff.1 hd).1
   simp at hlt
   obtain rfl:i=H.length:=by omega
   simp at hd
   subst hd
   refine⟨⟨b,s,arr.size-s,0⟩,arr,ty,fr,Map.of_some.2 ⟨by simp[Map.set],rfl⟩,hb,by simp;omega,by simp;omega,fun j v hv=>?_⟩
   obtain⟨e1,e2⟩:=hc j v hv
   exact⟨v,e1,plain1_rel _ e2⟩
 ·simp only[Map.set]at hp
  split at hp
  ·rename_i e;subst e;simp
  ·have:=hr.dom i p hp;simp;omega
 ·obtain⟨n,hn⟩:=hr.glob g hg
  exact⟨n,hle _ _ hn⟩
 ·simp only[Map.set]at hp
  split at hp
  ·cases hp;exact(Array.getElem?_eq_some_iff.1 hb).1
  ·exact hr.plc i p hp
theorem cells_spot{a:Addr}{v:Value}(h:w.cell? a=some v):a.spot=none∧∃c t f,w.heap[a.block]?=some (.cells c t f)∧c[a.off]?=some v:=by
 unfold World.cell? at h
 split at h
 ·rename_i c t f hb
  split at h
  ·simp at h
  ·rename_i hs
   exact⟨by simpa using hs,c,t,f,hb,h⟩
 ·simp at h
theorem lift_shallow{G:Nat}:∀(d:Nat) (t:TypeId) (ty:Ty) (fuel:Nat) (cs:List Value) (x:DataW X×List MemPlace),tyOf P d t=some ty→ty.shallow=true→trd enc P w fuel t cs=some x→Small B x.1→ZOK w cs →
  ∀(φ:Map) (H:Heap),HR φ G H w→G≤H.length→∃φ' H' vs,Lifted φ G H w B ty cs φ' H' vs
 | 0,_,_,_,_,_,h,_,_,_,_=>by simp[tyOf]at h
 | d+1,t,ty,fuel,cs,x,hty,hsh,hx,hB,hz=>by
  intro φ H hr hG
  by_cases hf:ty.flat=true
  ·exact⟨φ,H,cs,Has.plain_lift hr (lift_flat H (d+1) t ty fuel cs x hty hf hx hB)⟩
  simp only[tyOf]at hty
  split at hty
  ·cases hty;simp[Ty.flat]at hf
  ·cases hty;simp[Ty.flat]at hf
  ·cases hty;simp[Ty.flat]at hf
  ·rename_i e hu
   split at hty
   ·rename_i ty' hty'
    split at hty
    ·rename_i hc
     cases hty
     simp only[Ty.shallow]at hsh
     rcases DataW.trod_slice hu hx with ⟨rfl,_⟩|⟨a,len,cap,elems,rest,n,rfl,rfl,rfl,hb,hlc,hcm,hel,he,hsp,_⟩
     ·exact⟨φ,H,[.slice none 0 0],hr,Map.le_refl φ,Longer.refl H,by rw[Has.eq_def];exact .inl rfl,plainAll_rel φ rfl⟩
     ·obtain⟨hrl,hre⟩:=hsp rfl
      have each:∀i,i<cap→∃cs' y,w.cells? 0 (a.add (i*ty'.size)) ty'.size=some cs'∧trd enc P w n e cs'=some y∧y ∈ elems++rest:=by
       intro i hi
       by_cases hi':i<len
       ·have h0:=he i hi'
        rw[List.getElem?_eq_getElem (by omega),Option.bind_eq_some_iff,hc.1]at h0
        obtain⟨cs',h1,h2⟩:=h0
        exact⟨cs',_,h1,h2,List.mem_append_left _ (List.getElem_mem _)⟩
       ·have h0:=hre (i-len) (by omega)
        rw[List.getElem?_eq_getElem (by omega),Option.bind_eq_some_iff,hc.1,show len+(i-len)=i by omega]at h0
        obtain⟨cs',h1,h2⟩:=h0
        exact⟨cs',_,h1,h2,List.mem_append_right _ (List.getElem_mem _)⟩
      have hcell:∀i j,i<cap→j<ty'.size→∃cs',w.cells? 0 (a.add (i*ty'.size)) ty'.size=some cs'∧cs'.length=ty'.size∧w.cell? ((a.add (i*ty'.size)).add j)=cs'[j]?∧FlatOK B H ty' cs':=by
       intro i j hi hj
       obtain⟨cs',y,h1,h2,h3⟩:=each i hi
       have hs:=World.cells?_some h1
       have hsm:Small B y.1:=by
        rcases hB with hB|hB
        ·exact .inl hB
        ·simp only[Fits]at hB
         rcases List.mem_append.1 h3 with h3|h3
         ·exact .inr (hB.2.1.mem (List.mem_map.2 ⟨_,h3,rfl⟩))
         ·exact .inr (hB.2.2.mem (List.mem_map.2 ⟨_,h3,rfl⟩))
       exact⟨cs',h1,hs.2.1,hs.2.2 j hj,lift_flat H d e ty' n cs' y hty' hsh h2 hsm⟩
      have hblk:a.spot=none∧∃c t f,w.heap[a.block]?=some (.cells c t f)∧a.off+cap*ty'.size≤c.size:=by
       by_cases h0:cap=0
       ·subst h0
        obtain⟨z1,c,t,f,z2,z3⟩:=hz a len (by simp)
        exact⟨z1,c,t,f,z2,by simpa using z3⟩
       ·obtain⟨cs0,_,q2,q3,_⟩:=hcell 0 0 (by omega) hc.2
        rw[List.getElem?_eq_getElem (by omega)]at q3
        simp[Addr.add]at q3
        obtain⟨z1,c,t,f,z2,z3⟩:=cells_spot q3
        refine⟨z1,c,t,f,z2,?_⟩
        obtain⟨cs1,_,r2,r3,_⟩:=hcell (cap-1) (ty'.size-1) (by omega) (by omega)
        rw[List.getElem?_eq_getElem (by omega)]at r3
        obtain⟨_,c',t',f',y2,y3⟩:=cells_spot r3
        have hblk:((a.add ((cap-1)*ty'.size)).add (ty'.size-1)).block=a.block:=by
         unfold Addr.add;split<;>split<;>rfl
        have hoff:((a.add ((cap-1)*ty'.size)).add (ty'.size-1)).off=a.off+(cap-1)*ty'.size+(ty'.size-1):=by
         unfold Addr.add;split<;>split<;>simp_all
        rw[hblk,z2]at y2
        cases y2
        have hlt:=(Array.getElem?_eq_some_iff.1 y3).1
        rw[hoff]at hlt
        have:cap*ty'.size=(cap-1)*ty'.size+ty'.size:=by
         obtain⟨m,rfl⟩:∃m,cap=m+1:=⟨cap-1,by omega⟩
         simp[Nat.succ_mul]
        omega
      obtain⟨hspot,arr,at',fr,hblk,hroom⟩:=hblk
      obtain⟨ab,ao,asp⟩:=a
      simp only at hspot;subst hspot
      simp only at hblk hroom
      have hadd:∀n,(⟨ab,ao,none⟩:Addr).add n=⟨ab,ao+n,none⟩:=add_addr ab ao
      let c:=(arr.toList.drop ao).take (cap*ty'.size)
      have hcl:c.length=cap*ty'.size:=by simp[c];omega
      have hpart:∀i,i<cap→FlatOK B H ty' ((c.drop (i*ty'.size)).take ty'.size):=by
       intro i hi
       obtain⟨cs',q1,q2,_,q4⟩:=hcell i 0 hi hc.2
       have:(c.drop (i*ty'.size)).take ty'.size=cs':=by
        apply List.ext_getElem?
        intro j
        by_cases hj:j<ty'.size
        ·obtain⟨cs2,q1',_,q3',_⟩:=hcell i j hi hj
         rw[q1]at q1';cases q1'
         rw[←q3',hadd,add_addr]
         have hb1:(i+1)*ty'.size≤cap*ty'.size:=Nat.mul_le_mul_right _ hi
         rw[Nat.succ_mul]at hb1
         rw[List.getElem?_take,if_pos hj,List.getElem?_drop,List.getElem?_take,if_pos (by omega),List.getElem?_drop]
         simp[World.cell?,hblk,Nat.add_assoc]
        ·rw[List.getElem?_eq_none (by simp;omega),List.getElem?_eq_none (by omega)]
       rw[this];exact q4
      have hpl:c.all plain1=true:=plainAll_of ty'.size cap c hcl (fun i hi=>(hpart i hi).plain)
      have hadd2:=hr.add hG hblk (c:=c) (s:=ao) (by rw[hcl];exact hroom) (fun j v hv=>by
       refine⟨?_,List.all_eq_true.1 hpl v (List.mem_of_getElem? hv)⟩
       simp only[c]at hv
       rw[List.getElem?_take]at hv
       split at hv
       ·rw[List.getElem?_drop]at hv;simpa using hv
       ·simp at hv)
      refine⟨_,_,[.slice (some ⟨H.length,0,none⟩) len cap],hadd2,?_,⟨_,rfl⟩,?_,?_⟩
      ·intro i p hp
       have:=hr.dom i p hp
       simp only[Map.set];rw[if_neg (by omega)];exact hp
      ·simp only[Has]
       refine .inr ⟨H.length,len,cap,c,rfl,hlc,?_,by simp,?_,?_⟩
       ·rcases hB with hB|hB
        ·omega
        ·simp only[Fits]at hB
         have:=hB.1
         simp[hel,hrl]at this
         omega
       ·rw[get_of];simp
       ·exact hasN_of ty'.size cap c hcl (fun i hi=>Has.mono ⟨_,rfl⟩ _ _ (hpart i hi).has)
      ·have:=VRel.slice (φ:=φ.set H.length ⟨ab,ao,arr.size-ao,0⟩) H.length 0 len cap ⟨ab,ao,arr.size-ao,0⟩ (Map.of_some.2 ⟨by simp[Map.set],rfl⟩)
       exact LRel.cons this (LRel.nil _)
    ·simp at hty
   ·simp at hty
  ·rename_i fs hu
   split at hty
   ·rename_i l hl
    split at hty
    ·rename_i hsz
     cases hty
     obtain⟨xs,n,rfl,rfl,hlen,hxl,hxs⟩:=DataW.trod_struct hu hx
     simp only[Ty.shallow]at hsh
     have key:∀(fs':List Field) (off i0:Nat) (l:List Ty),tysOf P (tyOf P d) off fs'=some l→Ty.shallows l=true→cs.length=off+Ty.sizes l→(∀i f,fs'[i]?=some f→trd enc P w n f.type ((cs.drop f.offset).take (P.cellsOf f.type))=xs[i0+i]?)→(i0+fs'.length≤xs.length) →
       ∀(φ:Map) (H:Heap),HR φ G H w→G≤H.length→∃φ' H' vs,HR φ' G H' w∧φ.le φ'∧Longer H H'∧HasAll B H' l vs∧LRel φ' vs (cs.drop off):=by
      intro fs'
      induction fs' with
      | nil=>
       intro off i0 l hl _ hle _ _ φ H hr hG
       simp only[tysOf]at hl;cases hl
       have:cs.drop off=[]:=by simp[Ty.sizes]at hle ⊢;omega
       rw[this]
       exact⟨φ,H,[],hr,Map.le_refl φ,Longer.refl H,by simp only[HasAll],LRel.nil φ⟩
      | cons f r ih=>
       intro off i0 l hl hfl hle hget hbnd φ H hr hG
       simp only[tysOf]at hl
       split at hl
       ·rename_i ty hty
        split at hl
        ·rename_i hc
         split at hl
         ·rename_i l' hl'
          cases hl
          simp only[Ty.shallows,Bool.and_eq_true]at hfl
          simp only[Ty.sizes]at hle
          have h0:=hget 0 f rfl
          rw[hc.1,hc.2]at h0
          simp only[List.length_cons]at hbnd
          have hlt:i0+0<xs.length:=by omega
          rw[List.getElem?_eq_getElem hlt]at h0
          have hsm:Small B (xs[i0+0]).1:=by
           rcases hB with hB|hB
           ·exact .inl hB
           ·simp only[Fits]at hB
            exact .inr (hB.mem (List.mem_map.2 ⟨_,List.getElem_mem hlt,rfl⟩))
          obtain⟨φ1,H1,vs1,L1⟩:=lift_shallow (G:=G) d f.type ty n _ _ hty hfl.1 h0 hsm (hz.sub fun v hv=>List.mem_of_mem_drop (List.mem_of_mem_take hv)) φ H hr hG
          obtain⟨φ2,H2,vs2,a1,a2,a3,a4,a5⟩:=ih (off+ty.size) (i0+1) l' hl' hfl.2 (by omega) (fun i g hg=>by
           have:=hget (i+1) g (by simpa using hg)
           rw[show i0+1+i=i0+(i+1) by omega];exact this) (by omega) φ1 H1 L1.hr (Nat.le_trans hG L1.longer.len)
          have hsplit:cs.drop off=(cs.drop off).take ty.size++cs.drop (off+ty.size):=by
           rw[←List.drop_drop,List.take_append_drop]
          refine⟨φ2,H2,vs1++vs2,a1,Map.le_trans L1.le a2,L1.longer.trans a3,?_,?_⟩
          ·simp only[HasAll]
           exact⟨vs1,vs2,rfl,Has.mono a3 _ _ L1.has,a4⟩
          ·rw[hsplit];exact(L1.rel.mono a2).append a5
         ·simp at hl
        ·simp at hl
       ·simp at hl
     obtain⟨φ',H',vs,a1,a2,a3,a4,a5⟩:=key fs.toList 0 0 l hl hsh (by rw[hlen,hsz];omega) (fun i f hf'=>by simpa using hxs i f (by simpa using hf')) (by simp[hxl]) φ H hr hG
     exact⟨φ',H',vs,a1,a2,a3,by simp only[Has];exact a4,by simpa using a5⟩
    ·simp at hty
   ·simp at hty
  ·rename_i n e hu
   split at hty
   ·rename_i ty' hty'
    split at hty
    ·cases hty
     simp only[Ty.shallow]at hsh
     simp only[Ty.flat]at hf
     exact absurd hsh hf
    ·simp at hty
   ·simp at hty
  ·simp at hty
end
open Go.ChangeShapes Go.WideShapes Go.ChangeAt Go.RowKit
theorem rowAt_off{P:Program}{fits:TypeId→Bool}:∀{d:Nat} {e:TypeId} {count off n:Nat},rowAt P fits d e count off n=true→off≤count*P.cellsOf e
 | 0,_,_,_,_,h=>by simp[rowAt]at h
 | d+1,e,count,off,n,h=>by
  simp only[rowAt]at h
  split at h
  ·simp at h
  ·rename_i hs
   simp only[Bool.or_eq_true,Bool.and_eq_true,beq_iff_eq,decide_eq_true_eq]at h
   have hd:=Nat.div_add_mod off (P.cellsOf e)
   have hm:=Nat.mod_lt off (Nat.pos_of_ne_zero hs)
   rcases h with h|h
   ·have h1:off/P.cellsOf e≤count:=by omega
    have:=Nat.mul_le_mul_left (P.cellsOf e) h1
    rw[Nat.mul_comm count];omega
   ·have h1:off/P.cellsOf e+1≤count:=by omega
    have:=Nat.mul_le_mul_left (P.cellsOf e) h1
    rw[Nat.mul_add]at this
    rw[Nat.mul_comm count];omega
theorem liesAt_off{P:Program}:∀{d:Nat} {e:TypeId} {count off:Nat} {u:TypeId} {n:Nat},liesAt P d e count off u n=true→off≤count*P.cellsOf e
 | 0,_,_,_,_,_,h=>by simp[liesAt]at h
 | d+1,e,count,off,u,n,h=>by
  simp only[liesAt,Bool.or_eq_true]at h
  rcases h with h|h
  ·exact rowAt_off h
  ·split at h
   ·exact liesAt_off h
   ·simp at h
section
variable {X:Type}{enc:TypeId×Value→X}{P:Program}{w:World}
theorem zok_of_cell{r:Reach}{base:Nat}{u:TypeId}{a:Addr}{len:Nat}(h:Cell.okWide P w r base u (.slice (some a) len 0)):a.spot=none∧∃c t f,w.heap[a.block]?=some (.cells c t f)∧a.off≤c.size:=by
 have h':Cell.ok P w r base u (.slice (some a) len 0):=by
  unfold Cell.okWide at h
  split at h<;>first|exact h|(rename_i e;cases e)
 unfold Cell.ok at h'
 split at h'<;>rename_i e<;>first|(cases e;done)|skip
 ·cases e
  obtain⟨_,_,hh⟩:=h'
  obtain⟨_,hs,row,cells,hsh,hl⟩:=hh
  refine⟨hs,?_⟩
  unfold World.shape? at hsh
  split at hsh
  ·rename_i c t' f hb
   simp only[Option.some.injEq,Prod.mk.injEq]at hsh
   obtain⟨h3,h4⟩:=hsh
   refine⟨c,t',f,hb,?_⟩
   have h1:=liesAt_off hl
   have h2:=Nat.div_mul_le_self cells (P.cellsOf row)
   omega
  ·simp at hsh
 ·exact h'.elim
theorem zok_of{r:Reach}{base:Nat}{t:TypeId}{v:Value}(h:Value.okWide P w r base t v):ZOK w v.cells.toList:=by
 intro a len hm
 have hcell:(∃cs,v=.agg cs∧cs.size=P.cellsOf t∧Row.okWide P w r base t cs)→a.spot=none∧∃c t f,w.heap[a.block]?=some (.cells c t f)∧a.off≤c.size:=by
  rintro⟨cs,rfl,_,ts,_,_,hall⟩
  simp only[Value.cells]at hm
  obtain⟨i,hi⟩:=List.getElem?_of_mem hm
  obtain⟨u,_,hu⟩:=hall i _ (by simpa using hi)
  exact zok_of_cell hu
 unfold Value.okWide at h
 split at h
 ·exact hcell h
 ·exact hcell h
 ·cases v<;>simp[Value.cells]at hm
  ·obtain⟨rfl,rfl,rfl⟩:=hm;exact zok_of_cell h
  ·exfalso
   unfold Cell.okWide Cell.ok at h
   split at h<;>first|(rename_i e;cases e;done)|skip
   split at h<;>first|(rename_i e;cases e;done)|exact h
def HasArg(B:Nat)(H:Heap)(ty:Ty)(v:Value):Prop:=
 match ty with
 | .rcd l=>∃cs:Array Value,v=.agg cs∧HasAll B H l cs.toList
 | .arr n e=>∃cs:Array Value,v=.agg cs∧HasN (Has B H e) n cs.toList
 | ty=>Has B H ty [v]
def HasArgs(B:Nat)(H:Heap):List Ty→List Value→Prop
 | [],vs=>vs=[]
 | t::r,vs=>∃a b,vs=a::b∧HasArg B H t a∧HasArgs B H r b
theorem HasArg.mono{B:Nat}{H H':Heap}(h:Longer H H'){ty:Ty}{v:Value}(e:HasArg B H ty v):HasArg B H' ty v:=by
 unfold HasArg at e ⊢
 split at e
 ·obtain⟨cs,h1,h2⟩:=e;exact⟨cs,h1,HasAll.mono h _ _ h2⟩
 ·obtain⟨cs,h1,h2⟩:=e;exact⟨cs,h1,HasN.mono (fun vs=>Has.mono h _ vs) _ _ h2⟩
 ·exact Has.mono h _ _ e
theorem has_one{B:Nat}{H:Heap}{ty:Ty}{vs:List Value}(h:Has B H ty vs)(h1:∀l,ty≠.rcd l)(h2:∀n e,ty≠.arr n e):∃v,vs=[v]∧Has B H ty [v]:=by
 cases ty with
 | bool=>simp only[Has]at h;obtain⟨b,rfl⟩:=h;exact⟨_,rfl,by simp only[Has];exact⟨b,rfl⟩⟩
 | int k=>simp only[Has]at h;obtain⟨n,rfl,hn⟩:=h;exact⟨_,rfl,by simp only[Has];exact⟨n,rfl,hn⟩⟩
 | str=>simp only[Has]at h;obtain⟨s,rfl,hn⟩:=h;exact⟨_,rfl,by simp only[Has];exact⟨s,rfl,hn⟩⟩
 | rcd l=>exact absurd rfl (h1 l)
 | arr n e=>exact absurd rfl (h2 n e)
 | sl e=>
  have h':=h
  simp only[Has]at h'
  rcases h' with rfl|⟨i,len,cap,c,rfl,_⟩
  ·exact⟨_,rfl,h⟩
  ·exact⟨_,rfl,h⟩
theorem tyOf_rcd{d:Nat}{t:TypeId}{l:List Ty}(h:tyOf P d t=some (.rcd l)):∃fs,P.underlying t=some (.struct fs):=by
 cases d with
 | zero=>simp[tyOf]at h
 | succ d=>
  simp only[tyOf]at h
  split at h<;>first|(cases h;done)|skip
  ·split at h<;>first|(cases h;done)|(split at h<;>cases h)
  ·rename_i fs hu;exact⟨fs,hu⟩
  ·split at h<;>first|(cases h;done)|(split at h<;>cases h)
theorem tyOf_arr{d:Nat}{t:TypeId}{n:Nat}{e:Ty}(h:tyOf P d t=some (.arr n e)):∃m u,P.underlying t=some (.array m u):=by
 cases d with
 | zero=>simp[tyOf]at h
 | succ d=>
  simp only[tyOf]at h
  split at h<;>first|(cases h;done)|skip
  ·split at h<;>first|(cases h;done)|(split at h<;>cases h)
  ·split at h<;>first|(cases h;done)|(split at h<;>cases h)
  ·rename_i m u hu;exact⟨m,u,hu⟩
theorem lift_arg{B G:Nat}{d:Nat}{t:TypeId}{ty:Ty}{v:Value}{x:DataW X}{ps:List MemPlace}{r:Reach}{base:Nat}(hty:tyOf P d t=some ty)(hsh:ty.shallow=true)
  (hx:DataW.Trod enc P w 0 (fun _=>true) true t v x ps) (hv:Value.okWide P w r base t v) (hB:Small B x) {φ:Map} {H:Heap} (hr:HR φ G H w) (hG:G≤H.length) :
  ∃φ' H' av,HR φ' G H' w∧φ.le φ'∧Longer H H'∧HasArg B H' ty av∧VRel φ' av v:=by
 obtain⟨fuel,hx⟩:=hx
 obtain⟨φ',H',vs,L⟩:=lift_shallow d t ty fuel _ _ hty hsh hx hB (zok_of hv) φ H hr hG
 have haggv:(∃cs,v=.agg cs)→(∀cs:Array Value,v=.agg cs→∃av:Array Value,vs=av.toList∧VRel φ' (.agg av) v):=by
  rintro _ cs rfl
  refine⟨vs.toArray,by simp,?_⟩
  have hL:=L.rel
  simp only[Value.cells]at hL
  have:=LRel.arr (a:=vs.toArray) (a':=cs) |>.1 (by simpa using hL)
  exact .agg _ _ this.1 this.2
 by_cases h1:∃l,ty=.rcd l
 ·obtain⟨l,rfl⟩:=h1
  obtain⟨fs,hu⟩:=tyOf_rcd hty
  simp only[Value.okWide,hu]at hv
  obtain⟨cs,rfl,_⟩:=hv
  obtain⟨av,rfl,hrel⟩:=haggv ⟨cs,rfl⟩ cs rfl
  have hh:=L.has
  simp only[Has]at hh
  exact⟨φ',H',.agg av,L.hr,L.le,L.longer,⟨av,rfl,hh⟩,hrel⟩
 by_cases h2:∃n e,ty=.arr n e
 ·obtain⟨n,e,rfl⟩:=h2
  obtain⟨m,u,hu⟩:=tyOf_arr hty
  simp only[Value.okWide,hu]at hv
  obtain⟨cs,rfl,_⟩:=hv
  obtain⟨av,rfl,hrel⟩:=haggv ⟨cs,rfl⟩ cs rfl
  have hh:=L.has
  simp only[Has]at hh
  exact⟨φ',H',.agg av,L.hr,L.le,L.longer,⟨av,rfl,hh⟩,hrel⟩
 ·obtain⟨a,rfl,ha⟩:=has_one L.has (fun l e=>h1 ⟨l,e⟩) (fun n e e'=>h2 ⟨n,e,e'⟩)
  refine⟨φ',H',a,L.hr,L.le,L.longer,?_,?_⟩
  ·unfold HasArg
   split
   ·exact absurd ⟨_,rfl⟩ h1
   ·exact absurd ⟨_,_,rfl⟩ h2
   ·exact ha
  ·have hL:=L.rel
   have hna:∀cs,v≠.agg cs:=by
    rintro cs rfl
    have hnu:∀fs,P.underlying t≠some (.struct fs):=by
     intro fs hu
     cases d with
     | zero=>simp[tyOf]at hty
     | succ d=>
      simp only[tyOf,hu]at hty
      split at hty
      ·split at hty
       ·cases hty;exact h1 ⟨_,rfl⟩
       ·cases hty
      ·cases hty
    have hna:∀n e,P.underlying t≠some (.array n e):=by
     intro n e hu
     cases d with
     | zero=>simp[tyOf]at hty
     | succ d=>
      simp only[tyOf,hu]at hty
      split at hty
      ·split at hty
       ·cases hty;exact h2 ⟨_,_,rfl⟩
       ·cases hty
      ·cases hty
    unfold Value.okWide at hv
    split at hv
    ·rename_i fs hu;exact hnu fs hu
    ·rename_i n e hu;exact hna n e hu
    ·unfold Cell.okWide Cell.ok at hv
     split at hv<;>first|(rename_i e;cases e;done)|skip
     split at hv<;>first|(rename_i e;cases e;done)|exact hv
   have hvc:v.cells.toList=[v]:=by
    cases v<;>first|rfl|exact absurd rfl (hna _)
   rw[hvc]at hL
   exact hL.2 0 _ _ rfl rfl
theorem lift_args{B G:Nat}{d:Nat}{r:Reach}{base:Nat}:∀(ts:List TypeId) (tys:List Ty) (vs:List Value) (ds:List (DataW X)) (ps:List MemPlace),ts.map (tyOf P d)=tys.map some→(∀ty ∈ tys,ty.shallow=true) →
  DataW.TrodAll enc P w 0 (fun _=>true) true ts vs ds ps→(∀(j:Nat) t v,ts[j]?=some t→vs[j]?=some v→Value.okWide P w r base t v)→(∀x ∈ ds,Small B x)→∀{φ:Map} {H:Heap},HR φ G H w→G≤H.length →
  ∃φ' H' avs,HR φ' G H' w∧φ.le φ'∧Longer H H'∧HasArgs B H' tys avs∧LRel φ' avs vs
 | [],tys,vs,ds,ps,hts,_,hx,_,_,φ,H,hr,_=>by
  obtain⟨rfl,rfl,rfl⟩:=trodAll_nil hx
  have:tys=[]:=by simpa using hts.symm
  subst this
  exact⟨φ,H,[],hr,Map.le_refl φ,Longer.refl H,rfl,LRel.nil φ⟩
 | t::ts,[],vs,ds,ps,hts,_,hx,_,_,φ,H,hr,_=>by simp at hts
 | t::ts,ty::tys,vs,ds,ps,hts,hsh,hx,hv,hB,φ,H,hr,hG=>by
  obtain⟨v,vs,x,ds,p,q,rfl,rfl,rfl,h0,hx⟩:=trodAll_cons hx
  simp only[List.map_cons,List.cons.injEq]at hts
  obtain⟨φ1,H1,av,a1,a2,a3,a4,a5⟩:=lift_arg hts.1 (hsh ty (by simp)) h0 (hv 0 t v rfl rfl) (hB x (by simp)) hr hG
  obtain⟨φ2,H2,avs,b1,b2,b3,b4,b5⟩:=lift_args ts tys vs ds q hts.2 (fun ty h=>hsh ty (by simp[h])) hx (fun j t v h1 h2=>hv (j+1) t v (by simpa using h1) (by simpa using h2)) (fun x h=>hB x (by simp[h])) a1 (Nat.le_trans hG a3.len)
  exact⟨φ2,H2,av::avs,b1,Map.le_trans a2 b2,a3.trans b3,⟨av,avs,rfl,a4.mono b3,b4⟩,LRel.cons (a5.mono b2) b5⟩
theorem trodAll_stays{W W':World}(hl:laidOutB P=true)(hsame:∀p:MemPlace,p.block<W.heap.size→W.sameAt W' p):∀(ts:List TypeId) (vs:List Value) (ds:List (DataW X)) (ps:List MemPlace),(∀t ∈ ts,P.readableRec t=true∧t<P.types.size) →
  DataW.TrodAll enc P W 0 (fun _=>true) true ts vs ds ps→DataW.TrodAll enc P W' 0 (fun b=>decide (b<W.heap.size)) true ts vs ds ps
 | [],vs,ds,ps,_,h=>by
  obtain⟨rfl,rfl,rfl⟩:=trodAll_nil h
  exact trodAll_mk0
 | t::ts,vs,ds,ps,hr,h=>by
  have hlt:=h.lt
  obtain⟨v,vs,x,ds,p,q,rfl,rfl,rfl,h0,hx⟩:=trodAll_cons h
  exact⟨p,q,WideElems.Trod_stays hl (hr t (by simp)).1 (hr t (by simp)).2 h0 (fun y hy=>hsame y (hlt y (by simp[hy]))) (fun y hy=>by simpa using hlt y (by simp[hy])),
   trodAll_stays hl hsame ts vs ds q (fun t ht=>hr t (by simp[ht])) hx,rfl⟩
end
section control
variable {cp:FuncId→Option CF}{lo:Nat}
def seqQ(cp:FuncId→Option CF)(lo:Nat)(b:Stm)(Q:Post):Post:=fun ex S' H'=>match ex with | .normal=>wpS cp lo b Q S' H'|ex=>Q ex S' H'
def blockQ(i:Nat)(Q:Post):Post:=fun ex S' H'=>match ex with | .exit j=>if j=i then Q .normal S' H' else Q (.exit j) S' H'|ex=>Q ex S' H'
theorem aw_seq{a b:Stm}{Q:Post}{S:List Value}{H:Heap}:wpS cp lo (.seq a b) Q S H=wpS cp lo a (seqQ cp lo b Q) S H:=rfl
theorem aw_block{i:Nat}{b:Stm}{Q:Post}{S:List Value}{H:Heap}:wpS cp lo (.block i b) Q S H=wpS cp lo b (blockQ i Q) S H:=rfl
theorem aw_skip{Q:Post}{S:List Value}{H:Heap}:wpS cp lo .skip Q S H=Q .normal S H:=rfl
theorem aw_exit{i:Nat}{Q:Post}{S:List Value}{H:Heap}:wpS cp lo (.exit i) Q S H=Q (.exit i) S H:=rfl
theorem aw_ret{Q:Post}{S:List Value}{H:Heap}:wpS cp lo .ret Q S H=Q .ret S H:=rfl
theorem seqQ_n{b:Stm}{Q:Post}{S:List Value}{H:Heap}:seqQ cp lo b Q .normal S H=wpS cp lo b Q S H:=rfl
theorem seqQ_e{b:Stm}{Q:Post}{i:Nat}{S:List Value}{H:Heap}:seqQ cp lo b Q (.exit i) S H=Q (.exit i) S H:=rfl
theorem seqQ_r{b:Stm}{Q:Post}{S:List Value}{H:Heap}:seqQ cp lo b Q .ret S H=Q .ret S H:=rfl
theorem blockQ_n{i:Nat}{Q:Post}{S:List Value}{H:Heap}:blockQ i Q .normal S H=Q .normal S H:=rfl
theorem blockQ_r{i:Nat}{Q:Post}{S:List Value}{H:Heap}:blockQ i Q .ret S H=Q .ret S H:=rfl
theorem blockQ_e{i j:Nat}{Q:Post}{S:List Value}{H:Heap}:blockQ i Q (.exit j) S H=if j=i then Q .normal S H else Q (.exit j) S H:=rfl
theorem aw_sets{l:List (Nat×E)}{chk:List E}{Q:Post}{S:List Value}{H:Heap}{vs:List (Nat×Value)}(h:evSets S H l=some vs)(hc:evChk S H chk=true){S':List Value}(hS:setAll S vs=S')(k:Q .normal S' H):wpS cp lo (.sets l chk) Q S H:=by
 subst hS;simp only[wpS,h];exact⟨hc,k⟩
theorem aw_hv{l:List (Nat×E)}{chk:List E}{dst:Option Nat}{o:HOp}{a:E}{Q:Post}{S:List Value}{H:Heap}{vs:List (Nat×Value)}{xs:List Value}(h:evSets S H l=some vs)(hc:evChk S H chk=true)(ha:ev S H a=some xs)
  (k:wpH cp lo o xs H fun v H'=>Q .normal (setD (setAll S vs) dst v) H'):wpS cp lo (.hv l chk [] dst o a) Q S H:=by
 simp only[wpS,h,holds,ha];exact⟨hc,.inl k⟩
theorem wpH_callC{f:FuncId}{first cap:Array Value}{args:List Value}{H:Heap}{R R':Value→Heap→Prop}(h:Ev cp lo f (first.toList++args++cap.toList) H R')(k:∀v H',R' v H'→R v H'):wpH cp lo .callC (.func (.func f) first cap::args) H R:=
 h.mono k
theorem aw_hv_if{l:List (Nat×E)}{chk:List E}{pc:PC}{dst:Option Nat}{o:HOp}{a:E}{Q:Post}{S:List Value}{H:Heap}{vs:List (Nat×Value)}{t:Bool}(h:evSets S H l=some vs)(hc:evChk S H chk=true)(hp:holds S H pc=some t)
  (k1:t=true→∃xs,ev S H a=some xs∧wpH cp lo o xs H fun v H'=>Q .normal (setD (setAll S vs) dst v) H') (k2:t=false→Q .normal (setD (setAll S vs) dst undef) H):wpS cp lo (.hv l chk pc dst o a) Q S H:=by
 cases t with
 | true=>obtain⟨xs,ha,k⟩:=k1 rfl;simp only[wpS,h,hp,ha];exact⟨hc,.inl k⟩
 | false=>simp only[wpS,h,hp];exact⟨hc,k2 rfl⟩
theorem aw_cond{c:E}{a b:Stm}{Q:Post}{S:List Value}{H:Heap}{t:Bool}(h:ev1 S H c=some (.bool t))(k1:t=true→wpS cp lo a Q S H)(k2:t=false→wpS cp lo b Q S H):wpS cp lo (.cond c a b) Q S H:=by
 simp only[wpS,h];exact⟨k1,k2⟩
def loopQ(J:Nat→List Value→Heap→Prop)(m:Nat)(Q:Post):Post:=fun ex S' H'=>match ex with | .normal=>∃m',m'<m∧J m' S' H'|ex=>Q ex S' H'
theorem aw_loop'{b:Stm}{Q:Post}{S:List Value}{H:Heap}(J:Nat→List Value→Heap→Prop)(m:Nat)(h0:J m S H)(hs:∀m S H,J m S H→wpS cp lo b (loopQ J m Q) S H):wpS cp lo (.loop b) Q S H:=⟨J,m,h0,hs⟩
theorem loopQ_n{J:Nat→List Value→Heap→Prop}{m:Nat}{Q:Post}{S:List Value}{H:Heap}:loopQ J m Q .normal S H=∃m',m'<m∧J m' S H:=rfl
theorem loopQ_e{J:Nat→List Value→Heap→Prop}{m i:Nat}{Q:Post}{S:List Value}{H:Heap}:loopQ J m Q (.exit i) S H=Q (.exit i) S H:=rfl
theorem loopQ_r{J:Nat→List Value→Heap→Prop}{m:Nat}{Q:Post}{S:List Value}{H:Heap}:loopQ J m Q .ret S H=Q .ret S H:=rfl
theorem body_ret{cf:CF}{R:Value→Heap→Prop}{S:List Value}{H:Heap}{vs:List Value}(h:evList S H cf.res=some vs)(k:R (resultOf vs) H):bodyQ cf R .ret S H:=by
 simp only[bodyQ,h];exact k
theorem wpS.mono{st:Stm}{Q Q':Post}{S:List Value}{H:Heap}(h:wpS cp lo st Q S H)(hq:∀ex S H,Q ex S H→Q' ex S H):wpS cp lo st Q' S H:=by
 have wpH_mono:∀(o:HOp) (vs:List Value) (H:Heap) (R R':Value→Heap→Prop),(∀v H,R v H→R' v H)→wpH cp lo o vs H R→wpH cp lo o vs H R':=by
  intro o vs H R R' hr h
  cases o
  case call raise=>
   simp only[wpH]at h ⊢
   split at h
   ·exact h.mono hr
   ·exact h
  case callC=>
   simp only[wpH]at h ⊢
   split at h
   ·exact h.mono hr
   ·exact h
  case callK n=>
   simp only[wpH]at h ⊢
   split at h
   ·exact h.mono fun v H' h=>⟨h.1,hr _ _ h.2⟩
   ·exact h
  all_goals
   simp only[wpH]at h ⊢
   split at h
   ·exact hr _ _ h
   ·exact h.elim
 have wpP_mono:∀(o:HOp) (vs:List Value) (H:Heap) (R R':Value→Heap→Prop),(∀v H,R v H→R' v H)→wpP cp lo o vs H R→wpP cp lo o vs H R':=by
  intro o vs H R R' hr h
  unfold wpP at h ⊢
  split at h
  ·split at h
   ·exact h.mono hr
   ·exact h
  ·split at h
   ·exact hr _ _ h
   ·exact h
  ·exact h.elim
 revert h hq
 induction st generalizing Q Q' S H with
 | skip=>intro h hq;exact hq _ _ _ h
 | sets l chk=>
  intro h hq
  simp only[wpS]at h ⊢
  split at h
  ·exact⟨h.1,hq _ _ _ h.2⟩
  ·exact h
 | hv l chk pc dst o a=>
  intro h hq
  simp only[wpS]at h ⊢
  split at h
  ·refine⟨h.1,?_⟩
   have h2:=h.2
   split at h2
   ·split at h2
    ·exact h2.imp (wpH_mono _ _ _ _ _ (fun v H h=>hq _ _ _ h)) (wpP_mono _ _ _ _ _ (fun v H h=>hq _ _ _ h))
    ·exact h2
   ·exact hq _ _ _ h2
   ·exact h2
  ·exact h
 | dist a b=>
  intro h hq
  simp only[wpS]at h ⊢
  split at h
  ·exact⟨h.1,hq _ _ _ h.2⟩
  ·exact h
 | seq a b iha ihb=>
  intro h hq
  refine iha h fun ex S H h=>?_
  cases ex with
  | normal=>exact ihb h hq
  | exit i=>exact hq _ _ _ h
  | ret=>exact hq _ _ _ h
 | cond c a b iha ihb=>
  intro h hq
  simp only[wpS]at h ⊢
  split at h
  ·exact⟨fun e=>iha (h.1 e) hq,fun e=>ihb (h.2 e) hq⟩
  ·exact h
 | block i b ih=>
  intro h hq
  refine ih h fun ex S H h=>?_
  cases ex with
  | normal=>exact hq _ _ _ h
  | exit j=>
   simp only at h ⊢
   split at h
   ·rename_i e;rw[if_pos e];exact hq _ _ _ h
   ·rename_i e;rw[if_neg e];exact hq _ _ _ h
  | ret=>exact hq _ _ _ h
 | loop b ih=>
  intro h hq
  obtain⟨J,m,h0,hs⟩:=h
  refine⟨J,m,h0,fun m S H hJ=>ih (hs m S H hJ) fun ex S H h=>?_⟩
  cases ex with
  | normal=>exact h
  | exit j=>exact hq _ _ _ h
  | ret=>exact hq _ _ _ h
 | exit i=>intro h hq;exact hq _ _ _ h
 | ret=>intro h hq;exact hq _ _ _ h
 | alt l s r ihs ihr=>
  intro h hq
  simp only[wpS]at h ⊢
  split at h
  ·exact⟨fun e=>ihs (h.1 e) hq,fun e=>ihr (h.2 e) hq⟩
  ·exact h
 | scope b alts ihb iha=>
  intro h hq
  obtain⟨J,h0,hs⟩:=h
  refine⟨J,ihb h0 fun ex S H h=>?_,fun m l S H hJ=>iha (hs m l S H hJ) fun ex S H h=>?_⟩
  ·cases ex with
   | normal=>exact hq _ _ _ h
   | ret=>exact hq _ _ _ h
   | exit j=>
    simp only at h ⊢
    split at h
    ·rename_i e;rw[if_pos e];exact h
    ·rename_i e;rw[if_neg e];exact hq _ _ _ h
  ·cases ex with
   | normal=>exact hq _ _ _ h
   | ret=>exact hq _ _ _ h
   | exit j=>
    simp only at h ⊢
    split at h
    ·rename_i e;rw[if_pos e];exact h
    ·rename_i e;rw[if_neg e];exact hq _ _ _ h
theorem wpH_call0{f:FuncId}{first cap:Array Value}{args:List Value}{H:Heap}{R R':Value→Heap→Prop}(h:Ev cp lo f (first.toList++args++cap.toList) H R')(k:∀v H',R' v H'→R v H'):wpH cp lo (.call false) (.func (.func f) first cap::args) H R:=
 h.mono k
end control
def Ext(H H':Heap):Prop:=H.length≤H'.length∧∀i,i<H.length→H'.get i=H.get i
theorem Ext.refl(H:Heap):Ext H H:=⟨Nat.le_refl _,fun _ _=>rfl⟩
theorem Ext.trans{A B C:Heap}(h:Ext A B)(k:Ext B C):Ext A C:=⟨Nat.le_trans h.1 k.1,fun i hi=>(k.2 i (Nat.lt_of_lt_of_le hi h.1)).trans (h.2 i hi)⟩
theorem get_push_self(H:Heap)(c:List Value):Heap.get (H++[some c]) H.length=some c:=by rw[get_of];simp
theorem get_push_lt{H:Heap}{x:Option (List Value)}{i:Nat}(h:i<H.length):Heap.get (H++[x]) i=H.get i:=by
 unfold Heap.get;rw[List.getElem?_append_left h]
theorem get_set_self{H:Heap}{i:Nat}{c:List Value}(h:i<H.length):Heap.get (H.set i (some c)) i=some c:=by
 rw[get_of];simp[h]
theorem get_set_ne{H:Heap}{i j:Nat}{x:Option (List Value)}(h:i≠j):Heap.get (H.set i x) j=H.get j:=by
 unfold Heap.get;rw[List.getElem?_set_ne h]
theorem Ext.push(H:Heap)(x:Option (List Value)):Ext H (H++[x]):=⟨by simp,fun _ h=>get_push_lt h⟩
theorem Ext.set{H H':Heap}(h:Ext H H'){i:Nat}{x:Option (List Value)}(hi:H.length≤i):Ext H (H'.set i x):=⟨by simpa using h.1,fun j hj=>by rw[get_set_ne (by omega)];exact h.2 j hj⟩
theorem Ext.get{A B:Heap}(h:Ext A B){i:Nat}{c:List Value}(hc:A.get i=some c):B.get i=some c:=(h.2 i (Heap.get_lt hc)).trans hc
theorem get_app0{H:Heap}{c:List Value}{L:Heap}:Heap.get (H++(some c::L)) H.length=some c:=by rw[get_of];simp
theorem get_appS{H L:Heap}{k:Nat}:Heap.get (H++L) (H.length+k)=Heap.get L k:=by
 unfold Heap.get;rw[List.getElem?_append_right (by omega)];simp
theorem get_app_lt{H L:Heap}{i:Nat}(h:i<H.length):Heap.get (H++L) i=H.get i:=by
 unfold Heap.get;rw[List.getElem?_append_left h]
theorem get_cons0{c:List Value}{L:Heap}:Heap.get (some c::L) 0=some c:=rfl
theorem get_consS{x:Option (List Value)}{L:Heap}{k:Nat}:Heap.get (x::L) (k+1)=Heap.get L k:=rfl
theorem set_app0{H L:Heap}{x y:Option (List Value)}:(H++(x::L)).set H.length y=H++(y::L):=by simp
theorem set_appS{H L:Heap}{k:Nat}{y:Option (List Value)}:(H++L).set (H.length+k) y=H++L.set k y:=by simp[List.set_append_right]
theorem set_app_lt{H L:Heap}{i:Nat}{y:Option (List Value)}(h:i<H.length):(H++L).set i y=H.set i y++L:=by simp[List.set_append_left,h]
theorem Ext.app(H L:Heap):Ext H (H++L):=⟨by simp,fun _ h=>get_app_lt h⟩
theorem sh_plain{k:Mv}{v v':Value}(h:plain1 v=true)(s:Sh k v v'):v'=v:=by
 cases s<;>first|rfl|simp[plain1]at h
 rename_i f a b a' b' ha hb ra rb
 have e1:a=#[]:=by simpa using h.1
 have e2:b=#[]:=by simpa using h.2
 subst e1 e2
 have e3:a'=#[]:=by simpa using ha.symm
 have e4:b'=#[]:=by simpa using hb.symm
 subst e3 e4;rfl
def Heap.at(H:Heap)(b o:Nat):Option Value:=match H.get b with|some c=>c[o]?|none=>none
theorem cells_get{H:Heap}{b:Nat}{c:List Value}(h:H.get b=some c){o n:Nat}(hn:o+n≤c.length):H.cells b o n=some ((c.drop o).take n):=by
 simp[Heap.cells,h,hn]
theorem putCells_one{c:List Value}{o:Nat}{v:Value}(h:o<c.length):putCells c o [v]=c.set o v:=by
 unfold putCells
 rw[List.set_eq_take_append_cons_drop]
 simp[h]
section light
variable {H:Heap}
theorem ls_mv(x:Value):lsem .mv [x] H=some x:=rfl
theorem ls_add(k:IntKind)(a b:Int):lsem (.bin .add) [.int k a,.int k b] H=some (.int k (k.wrap (a+b))):=by simp[lsem,binSem,binInt]
theorem ls_sub(k:IntKind)(a b:Int):lsem (.bin .sub) [.int k a,.int k b] H=some (.int k (k.wrap (a-b))):=by simp[lsem,binSem,binInt]
theorem ls_mul(k:IntKind)(a b:Int):lsem (.bin .mul) [.int k a,.int k b] H=some (.int k (k.wrap (a*b))):=by simp[lsem,binSem,binInt]
theorem ls_quo{k:IntKind}{a b:Int}(h:b≠0):lsem (.bin .quo) [.int k a,.int k b] H=some (.int k (k.wrap (a.tdiv b))):=by simp[lsem,binSem,binInt,h]
theorem ls_rem{k:IntKind}{a b:Int}(h:b≠0):lsem (.bin .rem) [.int k a,.int k b] H=some (.int k (a.tmod b)):=by simp[lsem,binSem,binInt,h]
theorem ls_and(k:IntKind)(a b:Int):lsem (.bin .and) [.int k a,.int k b] H=some (.int k (k.wrap (BitVec.ofInt k.bits a &&& BitVec.ofInt k.bits b).toNat)):=by simp[lsem,binSem,binInt]
theorem ls_or(k:IntKind)(a b:Int):lsem (.bin .or) [.int k a,.int k b] H=some (.int k (k.wrap (BitVec.ofInt k.bits a ||| BitVec.ofInt k.bits b).toNat)):=by simp[lsem,binSem,binInt]
theorem ls_xor(k:IntKind)(a b:Int):lsem (.bin .xor) [.int k a,.int k b] H=some (.int k (k.wrap (BitVec.ofInt k.bits a ^^^ BitVec.ofInt k.bits b).toNat)):=by simp[lsem,binSem,binInt]
theorem ls_eql(k:IntKind)(a b:Int):lsem (.bin .eql) [.int k a,.int k b] H=some (.bool (decide (a=b))):=by simp[lsem,binSem,binInt];rfl
theorem ls_neq(k:IntKind)(a b:Int):lsem (.bin .neq) [.int k a,.int k b] H=some (.bool (decide (a≠b))):=by simp[lsem,binSem,binInt];rfl
theorem ls_lss(k:IntKind)(a b:Int):lsem (.bin .lss) [.int k a,.int k b] H=some (.bool (decide (a<b))):=by simp[lsem,binSem,binInt]
theorem ls_leq(k:IntKind)(a b:Int):lsem (.bin .leq) [.int k a,.int k b] H=some (.bool (decide (a≤b))):=by simp[lsem,binSem,binInt]
theorem ls_gtr(k:IntKind)(a b:Int):lsem (.bin .gtr) [.int k a,.int k b] H=some (.bool (decide (b<a))):=by simp[lsem,binSem,binInt]
theorem ls_geq(k:IntKind)(a b:Int):lsem (.bin .geq) [.int k a,.int k b] H=some (.bool (decide (b≤a))):=by simp[lsem,binSem,binInt]
theorem ls_shl{k k':IntKind}{a b:Int}(h:0≤b):lsem (.bin .shl) [.int k a,.int k' b] H=some (.int k (k.wrap (a*2^(min b.toNat k.bits)))):=by simp[lsem,binSem,shiftInt];omega
theorem ls_shr{k k':IntKind}{a b:Int}(h:0≤b):lsem (.bin .shr) [.int k a,.int k' b] H=some (.int k (a.fdiv (2^(min b.toNat k.bits)))):=by simp[lsem,binSem,shiftInt];omega
theorem ls_eqB(neg a b:Bool):lsem (.eqB neg) [.bool a,.bool b] H=some (.bool ((a==b) != neg)):=rfl
theorem ls_eqA(neg:Bool)(ks:List Nat)(xs ys:Array Value):lsem (.eqA neg ks) [.agg xs,.agg ys] H=(cellsEq ks xs.toList ys.toList).map fun b=>.bool (b != neg):=rfl
theorem ls_eqNn(neg:Bool)(l c l' c':Nat):lsem (.eqN neg) [.slice none l c,.slice none l' c'] H=some (.bool (true != neg)):=rfl
theorem ls_eqNs(neg:Bool)(a:Addr)(l c l' c':Nat):lsem (.eqN neg) [.slice (some a) l c,.slice none l' c'] H=some (.bool (false != neg)):=rfl
theorem ls_not(b:Bool):lsem (.un .not) [.bool b] H=some (.bool !b):=rfl
theorem ls_neg(k:IntKind)(n:Int):lsem (.un .neg) [.int k n] H=some (.int k (k.wrap (0-n))):=rfl
theorem ls_cvt(k k':IntKind)(n:Int):lsem (.cvt k) [.int k' n] H=some (.int k (k.wrap n)):=rfl
theorem ls_cvtS(s:ByteArray):lsem .cvtS [.string s] H=some (.string s):=rfl
theorem ls_nilChk(a:Addr):lsem .nilChk [.pointer (some a)] H=some (.pointer (some a)):=rfl
theorem ls_nilChkF(f:FuncId)(x y:Array Value):lsem .nilChk [.func (.func f) x y] H=some (.func (.func f) x y):=rfl
theorem ls_fAddr(off i o:Nat):lsem (.fAddr off) [.pointer (some ⟨i,o,none⟩)] H=some (.pointer (some ⟨i,o+off,none⟩)):=rfl
theorem ls_fld1(off n:Nat)(cs:Array Value):lsem (.fld off n false) [.agg cs] H=cs[off]?:=rfl
theorem ls_fldA{off n:Nat}{cs:Array Value}(h:off+n≤cs.size):lsem (.fld off n true) [.agg cs] H=some (.agg (cs.extract off (off+n))):=by simp[lsem,h]
theorem ls_iAddr{sz b o l c:Nat}{sp:Option Nat}{k:IntKind}{i:Int}(h0:0≤i)(h1:i<l):lsem (.iAddr sz) [.slice (some ⟨b,o,sp⟩) l c,.int k i] H=some (.pointer (some ⟨b,o+i.toNat*sz,none⟩)):=by simp[lsem,h0,h1]
theorem ls_iAddrA{len sz b o:Nat}{k:IntKind}{i:Int}(h0:0≤i)(h1:i<len):lsem (.iAddrA len sz) [.pointer (some ⟨b,o,none⟩),.int k i] H=some (.pointer (some ⟨b,o+i.toNat*sz,none⟩)):=by simp[lsem,h0,h1]
theorem ls_idx1{len sz:Nat}{cs:Array Value}{k:IntKind}{i:Int}(h0:0≤i)(h1:i<len):lsem (.idx len sz false) [.agg cs,.int k i] H=cs[i.toNat*sz]?:=by simp[lsem,h0,h1]
theorem ls_idxA{len sz:Nat}{cs:Array Value}{k:IntKind}{i:Int}(h0:0≤i)(h1:i<len)(h2:i.toNat*sz+sz≤cs.size):lsem (.idx len sz true) [.agg cs,.int k i] H=some (.agg (cs.extract (i.toNat*sz) (i.toNat*sz+sz))):=by simp[lsem,h0,h1,h2]
theorem ls_ld1(n b o:Nat):lsem (.ld n false) [.pointer (some ⟨b,o,none⟩)] H=H.at b o:=by
 simp only[lsem,Heap.cells,Heap.at,Bool.false_eq_true,if_false]
 cases h:H.get b with
 | none=>rfl
 | some c=>
  simp only
  by_cases hl:o<c.length
  ·rw[if_pos (by omega)];simp[List.head?_take,List.head?_drop]
  ·rw[if_neg (by omega)];simp;omega
theorem ls_ldA'(n b o:Nat):lsem (.ld n true) [.pointer (some ⟨b,o,none⟩)] H=match H.get b with|some c=>(if o+n≤c.length then some (.agg ((c.drop o).take n).toArray) else none)|none=>none:=by
 simp only[lsem,Heap.cells,if_true]
 cases H.get b with
 | none=>rfl
 | some c=>simp only;split<;>rfl
theorem ls_len(a:Option Addr)(n c:Nat):lsem .len [.slice a n c] H=some (.int .i64 n):=rfl
theorem ls_lenS(s:ByteArray):lsem .lenS [.string s] H=some (.int .i64 s.size):=rfl
theorem ls_lenC(n:Nat)(x:Value):lsem (.lenC n) [x] H=some (.int .i64 n):=rfl
theorem ls_ext(i:Nat)(vs:Array Value):lsem (.ext i) [.tuple vs] H=vs[i]?:=rfl
theorem ls_build(zero:List Value)(places:List (Nat×Nat))(vs:List Value):lsem (.build zero places) vs H=(buildL zero places vs).map fun l=>.agg l.toArray:=by simp[lsem]
theorem ls_mkF(f:FuncId)(n:Nat)(vs:List Value):lsem (.mkF f n) vs H=some (.func (.func f) (vs.take n).toArray (vs.drop n).toArray):=by simp[lsem]
theorem ls_mkI(t:TypeId)(x:Value):lsem (.mkI t) [x] H=some (.iface t x):=rfl
theorem ls_pk(c:Bool)(a b:Value):lsem .pk [.bool c,a,b] H=some (if c then a else b):=rfl
theorem ls_min(k k':IntKind)(a b:Int):lsem (.minmax false) [.int k a,.int k' b] H=some (.int k (if b<a then b else a)):=by simp[lsem,minInt]
theorem ls_max(k k':IntKind)(a b:Int):lsem (.minmax true) [.int k a,.int k' b] H=some (.int k (if a<b then b else a)):=by simp[lsem,minInt]
end light
theorem wrap_i64{a:Int}(h0:-9223372036854775808≤a)(h1:a≤9223372036854775807):IntKind.i64.wrap a=a:=by
 simp[IntKind.wrap,IntKind.bits,IntKind.signed];omega
theorem wrap_u64{a:Int}(h0:0≤a)(h1:a≤18446744073709551615):IntKind.u64.wrap a=a:=by
 simp[IntKind.wrap,IntKind.bits,IntKind.signed];omega
theorem wrap_u8{a:Int}(h0:0≤a)(h1:a≤255):IntKind.u8.wrap a=a:=by
 simp[IntKind.wrap,IntKind.bits,IntKind.signed];omega
section exprs
variable {S:List Value}{H:Heap}
def pickV(c a b:Option (List Value)):Option (List Value):=match c with|some [.bool true]=>a|some [.bool false]=>b|_=>none
theorem ev_pk(c a b:E):ev S H (.pick c a b)=pickV (ev S H c) (ev S H a) (ev S H b):=rfl
theorem pickV_t(a b:Option (List Value)):pickV (some [.bool true]) a b=a:=rfl
theorem pickV_f(a b:Option (List Value)):pickV (some [.bool false]) a b=b:=rfl
theorem pickV_and(t u:Bool):pickV (some [.bool t]) (some [.bool u]) (some [.bool false])=some [.bool (t&&u)]:=by cases t<;>rfl
theorem pickV_or(t u:Bool):pickV (some [.bool t]) (some [.bool true]) (some [.bool u])=some [.bool (t || u)]:=by cases t<;>rfl
theorem pickV_i(t:Bool)(k:IntKind)(x y:Int):pickV (some [.bool t]) (some [.int k x]) (some [.int k y])=some [.int k (if t=true then x else y)]:=by cases t<;>rfl
theorem ite_some_bool{p:Prop}[Decidable p](x y:Value):(if p then some [x] else some [y])=some [if p then x else y]:=by split<;>rfl
theorem ite_bool{p:Prop}[Decidable p](x y:Bool):(if p then Value.bool x else Value.bool y)=Value.bool (if p then x else y):=by split<;>rfl
theorem ite_int{p:Prop}[Decidable p](k:IntKind)(x y:Int):(if p then Value.int k x else Value.int k y)=Value.int k (if p then x else y):=by split<;>rfl
end exprs
theorem aw_op{cp:FuncId→Option CF}{lo:Nat}{l:List (Nat×E)}{chk:List E}{dst:Option Nat}{o:HOp}{a:E}{Q:Post}{S:List Value}{H:Heap}{vs:List (Nat×Value)}{xs:List Value}{v:Value}{H':Heap}(hcall:o.isCall=false)(h:evSets S H l=some vs)(hc:evChk S H chk=true)(ha:ev S H a=some xs)
  (ho:hsem0 lo o xs H=some (v,H')) {S':List Value} (hS:setD (setAll S vs) dst v=S') (k:Q .normal S' H'):wpS cp lo (.hv l chk [] dst o a) Q S H:=by
 subst hS
 refine aw_hv h hc ha ?_
 cases o
 case call raise=>simp[HOp.isCall]at hcall
 case callC=>simp[HOp.isCall]at hcall
 case callK n=>simp[HOp.isCall]at hcall
 all_goals (simp only[wpH];rw[ho];exact k)
section heavy
variable {lo:Nat}{H:Heap}
theorem hs_alloc(z:List Value):hsem0 lo (.alloc z) [] H=some (.pointer (some ⟨H.length,0,none⟩),H++[some z]):=rfl
theorem hs_box(v:Value):hsem0 lo .box [v] H=some (.pointer (some ⟨H.length,0,none⟩),H++[some v.cells.toList]):=rfl
theorem hs_mkSl{z:List Value}{k1 k2:IntKind}{l c:Int}(h:0≤l∧l≤c∧c≤4294967296):hsem0 lo (.mkSl z) [.int k1 l,.int k2 c] H=some (.slice (some ⟨H.length,0,none⟩) l.toNat c.toNat,H++[some (zeros z c.toNat)]):=by
 have h':0≤l∧l≤c∧c≤(mostNeed:Nat):=by simpa[mostNeed]using h
 simp only[hsem0,hsem,h',and_self,if_true]
theorem hs_bSl(z:List Value)(len:Nat)(idx:List Nat)(vs:List Value):hsem0 lo (.bSl z len idx) vs H=(buildL (zeros z len) (idx.map fun i=>(i*z.length,z.length)) vs).map fun l=>(.slice (some ⟨H.length,0,none⟩) len len,H++[some l]):=by
 simp only[hsem0,hsem]
theorem hs_st{n b o:Nat}{v:Value}(h:lo≤b):hsem0 lo (.st n) [.pointer (some ⟨b,o,none⟩),v] H=if v.cells.size=n∧oneCells v.cells.toList=true then(match H.get b with|some c=>(if o+v.cells.toList.length≤c.length then some (undef,H.set b (some (putCells c o v.cells.toList))) else none)|none=>none) else none:=by
 simp only[hsem0,hsem,Heap.put]
 split
 ·cases H.get b with
  | none=>rfl
  | some c=>
   simp only[h,true_and]
   split<;>rfl
 ·rfl
theorem hs_st1{b o:Nat}{v:Value}(h:lo≤b)(hv:v.cells=#[v])(h1:v.oneCell'=true):hsem0 lo (.st 1) [.pointer (some ⟨b,o,none⟩),v] H=(match H.get b with|some c=>(if o<c.length then some (undef,H.set b (some (c.set o v))) else none)|none=>none):=by
 rw[hs_st h]
 simp only[hv,oneCells,List.size_toArray,List.length_cons,List.length_nil,List.all_cons,h1,List.all_nil,Bool.and_self,and_self,if_true]
 cases H.get b with
 | none=>rfl
 | some c=>
  simp only
  by_cases ho:o<c.length
  ·rw[if_pos (by omega),if_pos ho,putCells_one ho]
  ·rw[if_neg (by omega),if_neg ho]
end heavy
section control
variable {cp:FuncId→Option CF}{lo:Nat}
def midQ(M:List Value→Heap→Prop):Post:=fun ex S H=>match ex with | .normal=>M S H|_=>False
theorem midQ_n{M:List Value→Heap→Prop}{S:List Value}{H:Heap}:midQ M .normal S H=M S H:=rfl
def midX(M:List Value→Heap→Prop)(Q:Post):Post:=fun ex S H=>match ex with | .normal=>M S H|ex=>Q ex S H
theorem midX_n{M:List Value→Heap→Prop}{Q:Post}{S:List Value}{H:Heap}:midX M Q .normal S H=M S H:=rfl
theorem midX_e{M:List Value→Heap→Prop}{Q:Post}{i:Nat}{S:List Value}{H:Heap}:midX M Q (.exit i) S H=Q (.exit i) S H:=rfl
theorem midX_r{M:List Value→Heap→Prop}{Q:Post}{S:List Value}{H:Heap}:midX M Q .ret S H=Q .ret S H:=rfl
theorem aw_midX{a b:Stm}{Q:Post}{S:List Value}{H:Heap}(M:List Value→Heap→Prop)(h1:wpS cp lo a (midX M Q) S H)(h2:∀S' H',M S' H'→wpS cp lo b Q S' H'):wpS cp lo a (seqQ cp lo b Q) S H:=
 h1.mono fun ex S H h=>by
  cases ex with
  | normal=>exact h2 S H h
  | exit i=>exact h
  | ret=>exact h
end control
def intL(l:List Int):List Value:=l.map (.int .i64)
theorem intL_len(l:List Int):(intL l).length=l.length:=by simp[intL]
theorem intL_at{l:List Int}{i:Nat}(h:i<l.length):(intL l)[i]?=some (.int .i64 (l.getD i 0)):=by
 simp[intL,List.getElem?_eq_getElem h]
theorem intL_set(l:List Int)(i:Nat)(v:Int):(intL l).set i (.int .i64 v)=intL (l.set i v):=by simp[intL,List.map_set]
theorem intL_take(l:List Int)(n:Nat):(intL l).take n=intL (l.take n):=by simp[intL]
theorem intL_drop(l:List Int)(n:Nat):(intL l).drop n=intL (l.drop n):=by simp[intL]
theorem intL_one'(l:List Int):oneCells (intL l)=true:=by simp[intL,oneCells,Value.oneCell']
theorem zeros_i64(n:Nat):zeros [.int .i64 0] n=intL (List.replicate n 0):=by
 unfold zeros intL
 induction n with
 | zero=>rfl
 | succ n ih=>simp only[List.replicate_succ,List.flatten_cons,ih,List.map_cons];rfl
def boolL(l:List Bool):List Value:=l.map .bool
theorem boolL_len(l:List Bool):(boolL l).length=l.length:=by simp[boolL]
theorem boolL_at{l:List Bool}{i:Nat}(h:i<l.length):(boolL l)[i]?=some (.bool (l.getD i false)):=by
 simp[boolL,List.getElem?_eq_getElem h]
theorem boolL_set(l:List Bool)(i:Nat)(v:Bool):(boolL l).set i (.bool v)=boolL (l.set i v):=by simp[boolL,List.map_set]
theorem zeros_bool(n:Nat):zeros [.bool false] n=boolL (List.replicate n false):=by
 unfold zeros boolL
 induction n with
 | zero=>rfl
 | succ n ih=>simp only[List.replicate_succ,List.flatten_cons,ih,List.map_cons];rfl
theorem oneCells_nil:oneCells []=true:=rfl
theorem oneCells_cons(v:Value)(l:List Value):oneCells (v::l)=(v.oneCell'&&oneCells l):=rfl
theorem oneCells_app(l m:List Value):oneCells (l++m)=(oneCells l&&oneCells m):=by simp[oneCells]
theorem boolL_one'(l:List Bool):oneCells (boolL l)=true:=by simp[boolL,oneCells,Value.oneCell']
theorem putCells_0(c vs:List Value):putCells c 0 vs=vs++c.drop vs.length:=by simp[putCells]
theorem putCells_S(a:Value)(c:List Value)(o:Nat)(vs:List Value):putCells (a::c) (o+1) vs=a::putCells c o vs:=by
 simp[putCells,Nat.add_right_comm]
theorem oc_int(k:IntKind)(n:Int):(Value.int k n).oneCell'=true:=rfl
theorem oc_bool(b:Bool):(Value.bool b).oneCell'=true:=rfl
theorem oc_str(s:ByteArray):(Value.string s).oneCell'=true:=rfl
theorem oc_ptr(a:Option Addr):(Value.pointer a).oneCell'=true:=rfl
theorem oc_sl(a:Option Addr)(n m:Nat):(Value.slice a n m).oneCell'=true:=rfl
def contig:Nat→List (Nat×Nat)→Nat→Bool
 | off,[],n=>off==n
 | off,(o,s)::r,n=>o==off&&contig (off+s) r n
def sizesOK:List (Nat×Nat)→List Value→Bool
 | [],[]=>true
 | (_,s)::r,v::vs=>v.cells.size==s&&sizesOK r vs
 | _,_=>false
theorem buildL_full:∀(places:List (Nat×Nat)) (vs pre zero:List Value),contig pre.length places (pre.length+zero.length)=true→sizesOK places vs=true→buildL (pre++zero) places vs=some (pre++vs.flatMap (fun v=>v.cells.toList))
 | [],[],pre,zero,h,_=>by
  simp only[contig,beq_iff_eq]at h
  have:zero=[]:=by
   cases zero with
   | nil=>rfl
   | cons a l=>simp at h
  subst this;simp[buildL]
 | [],_::_,_,_,_,h=>by simp[sizesOK]at h
 | _::_,[],_,_,_,h=>by simp[sizesOK]at h
 | (o,s)::r,v::vs,pre,zero,h,hs=>by
  simp only[contig,Bool.and_eq_true,beq_iff_eq]at h
  simp only[sizesOK,Bool.and_eq_true,beq_iff_eq]at hs
  obtain⟨rfl,h⟩:=h
  have hcl:v.cells.toList.length=s:=by simp[hs.1]
  have hle:s≤zero.length:=by
   have:∀(r:List (Nat×Nat)) (a n:Nat),contig a r n=true→a≤n:=by
    intro r
    induction r with
    | nil=>intro a n h;simp only[contig,beq_iff_eq]at h;omega
    | cons x r ih=>
     intro a n h
     obtain⟨o,s⟩:=x
     simp only[contig,Bool.and_eq_true,beq_iff_eq]at h
     have:=ih _ _ h.2
     omega
   have:=this _ _ _ h
   omega
  have hp:putCells (pre++zero) pre.length v.cells.toList=(pre++v.cells.toList)++zero.drop s:=by
   unfold putCells
   rw[List.take_left,hcl,List.drop_append,List.drop_of_length_le (by omega)]
   simp
  simp only[buildL]
  rw[if_pos ⟨hs.1,by simp;omega⟩,hp,buildL_full r vs (pre++v.cells.toList) (zero.drop s) ?_ hs.2]
  ·simp
  ·have e:(pre++v.cells.toList).length=pre.length+s:=by simp only[List.length_append,hcl]
   rw[e,List.length_drop,show pre.length+s+(zero.length-s)=pre.length+zero.length by omega]
   exact h
theorem ls_buildC{H:Heap}{zero:List Value}{places:List (Nat×Nat)}{vs:List Value}(h:contig 0 places zero.length=true)(hs:sizesOK places vs=true):lsem (.build zero places) vs H=some (.agg (vs.flatMap (fun v=>v.cells.toList)).toArray):=by
 have:=buildL_full places vs [] zero (by simpa using h) hs
 rw[ls_build]
 rw[List.nil_append]at this
 rw[this];rfl
theorem ls_buildE{H:Heap}(zero:List Value)(places:List (Nat×Nat))(vs:List Value):lsem (.build zero places) vs H=match contig 0 places zero.length&&sizesOK places vs with|true=>some (.agg (vs.flatMap (fun v=>v.cells.toList)).toArray)|false=>(buildL zero places vs).map fun l=>.agg l.toArray:=by
 cases h:contig 0 places zero.length&&sizesOK places vs with
 | true=>simp only[Bool.and_eq_true]at h;exact ls_buildC h.1 h.2
 | false=>exact ls_build zero places vs
theorem hs_bSlC{lo:Nat}{H:Heap}{z:List Value}{len:Nat}{idx:List Nat}{vs:List Value}(h:contig 0 (idx.map fun i=>(i*z.length,z.length)) (zeros z len).length=true)(hs:sizesOK (idx.map fun i=>(i*z.length,z.length)) vs=true):hsem0 lo (.bSl z len idx) vs H=some (.slice (some ⟨H.length,0,none⟩) len len,H++[some (vs.flatMap (fun v=>v.cells.toList))]):=by
 have:=buildL_full _ vs [] (zeros z len) (by simpa using h) hs
 rw[hs_bSl]
 rw[List.nil_append]at this
 rw[this];rfl
theorem zeros_len(z:List Value)(n:Nat):(zeros z n).length=n*z.length:=by
 unfold zeros
 induction n with
 | zero=>simp
 | succ n ih=>rw[List.replicate_succ,List.flatten_cons,List.length_append,ih,Nat.succ_mul,Nat.add_comm]
theorem hs_bSlE{lo:Nat}{H:Heap}(z:List Value)(len:Nat)(idx:List Nat)(vs:List Value):hsem0 lo (.bSl z len idx) vs H =
  match contig 0 (idx.map fun i=>(i*z.length,z.length)) (len*z.length)&&sizesOK (idx.map fun i=>(i*z.length,z.length)) vs with
  | true=>some (.slice (some ⟨H.length,0,none⟩) len len,H++[some (vs.flatMap (fun v=>v.cells.toList))])
  | false=>(buildL (zeros z len) (idx.map fun i=>(i*z.length,z.length)) vs).map fun l=>(.slice (some ⟨H.length,0,none⟩) len len,H++[some l]):=by
 split
 ·rename_i h;simp only[Bool.and_eq_true]at h;exact hs_bSlC (by rw[zeros_len];exact h.1) h.2
 ·exact hs_bSl z len idx vs
section heavy
variable {lo:Nat}{H:Heap}
theorem hs_st1i{b o:Nat}{k:IntKind}{n:Int}(h:lo≤b):hsem0 lo (.st 1) [.pointer (some ⟨b,o,none⟩),.int k n] H=(match H.get b with|some c=>(if o<c.length then some (undef,H.set b (some (c.set o (.int k n)))) else none)|none=>none):=hs_st1 h rfl rfl
theorem hs_st1b{b o:Nat}{n:Bool}(h:lo≤b):hsem0 lo (.st 1) [.pointer (some ⟨b,o,none⟩),.bool n] H=(match H.get b with|some c=>(if o<c.length then some (undef,H.set b (some (c.set o (.bool n)))) else none)|none=>none):=hs_st1 h rfl rfl
theorem hs_st1s{b o:Nat}{a:Option Addr}{n m:Nat}(h:lo≤b):hsem0 lo (.st 1) [.pointer (some ⟨b,o,none⟩),.slice a n m] H=(match H.get b with|some c=>(if o<c.length then some (undef,H.set b (some (c.set o (.slice a n m)))) else none)|none=>none):=hs_st1 h rfl rfl
theorem hs_stn{n b o:Nat}{v:Value}(h:lo≤b)(_:1<n):hsem0 lo (.st n) [.pointer (some ⟨b,o,none⟩),v] H=if v.cells.size=n∧oneCells v.cells.toList=true then(match H.get b with|some c=>(if o+v.cells.toList.length≤c.length then some (undef,H.set b (some (putCells c o v.cells.toList))) else none)|none=>none) else none:=hs_st h
theorem hs_st1p{b o:Nat}{a:Option Addr}(h:lo≤b):hsem0 lo (.st 1) [.pointer (some ⟨b,o,none⟩),.pointer a] H=(match H.get b with|some c=>(if o<c.length then some (undef,H.set b (some (c.set o (.pointer a)))) else none)|none=>none):=hs_st1 h rfl rfl
theorem hs_st1t{b o:Nat}{s:ByteArray}(h:lo≤b):hsem0 lo (.st 1) [.pointer (some ⟨b,o,none⟩),.string s] H=(match H.get b with|some c=>(if o<c.length then some (undef,H.set b (some (c.set o (.string s)))) else none)|none=>none):=hs_st1 h rfl rfl
theorem hs_app_nil{sz:Nat}{z:List Value}{i o n m:Nat}{sp:Option Nat}(hn:0<n∧n≤4294967296):hsem0 lo (.app sz z) [.slice none 0 0,.slice (some ⟨i,o,sp⟩) n m] H =
  (match H.get i with|some c=>(if o+n*sz≤c.length∧oneCells ((c.drop o).take (n*sz))=true then some (.slice (some ⟨H.length,0,some sz⟩) n n,H++[some ((c.drop o).take (n*sz))]) else none)|none=>none):=by
 simp only[hsem0,hsem,Heap.cells]
 cases H.get i with
 | none=>rfl
 | some c=>
  simp only
  by_cases h:o+n*sz≤c.length
  ·simp only[h,if_true,true_and,Option.bind_some]
   split
   ·simp only[appendSem,Nat.zero_add]
    rw[if_neg (by omega),if_neg (by unfold mostNeed;omega),if_pos trivial]
   ·rfl
  ·simp[h]
theorem hs_app_in{sz b o len:Nat}{z:List Value}{i o' n m:Nat}{sp:Option Nat}(hlo:lo≤b)(hn:0<n∧len+n≤4294967296):hsem0 lo (.app sz z) [.slice (some ⟨b,o,some sz⟩) len len,.slice (some ⟨i,o',sp⟩) n m] H =
  (match H.get i with|some c=>(if o'+n*sz≤c.length∧oneCells ((c.drop o').take (n*sz))=true then(match H.get b with|some d=>(if o+len*sz≤d.length then some (.slice (some ⟨H.length,0,some sz⟩) (len+n) (len+n),H.set b none++[some ((d.drop o).take (len*sz)++(c.drop o').take (n*sz))]) else none)|none=>none) else none)|none=>none):=by
 simp only[hsem0,hsem,Heap.cells]
 cases H.get i with
 | none=>rfl
 | some c=>
  simp only
  by_cases h:o'+n*sz≤c.length
  ·simp only[h,if_true,true_and,Option.bind_some]
   split
   ·simp only[appendSem]
    rw[if_neg (by omega),if_neg (by unfold mostNeed;omega),if_pos ⟨trivial,hlo⟩]
    simp only[Heap.cells]
    cases H.get b with
    | none=>rfl
    | some d=>simp only;split<;>rfl
   ·rfl
  ·simp[h]
theorem hs_cpy{sz d o n c a o' m c':Nat}{sp sp':Option Nat}(hlo:lo≤d):hsem0 lo (.cpy sz) [.slice (some ⟨d,o,sp⟩) n c,.slice (some ⟨a,o',sp'⟩) m c'] H =
  (match H.get a with|some ca=>(if o'+min m n*sz≤ca.length∧oneCells ((ca.drop o').take (min m n*sz))=true then(match H.get d with|some cd=>(if o+min m n*sz≤cd.length then some (.int .i64 (min m n:Nat),H.set d (some (putCells cd o ((ca.drop o').take (min m n*sz))))) else none)|none=>none) else none)|none=>none):=by
 simp only[hsem0,hsem,Heap.cells]
 cases H.get a with
 | none=>rfl
 | some ca=>
  simp only
  by_cases h:o'+min m n*sz≤ca.length
  ·have hl:((ca.drop o').take (min m n*sz)).length=min m n*sz:=by simp;omega
   simp only[h,if_true,true_and,Option.bind_some]
   split
   ·simp only[Heap.put,hl]
    cases H.get d with
    | none=>rfl
    | some cd=>simp only[hlo,true_and];split<;>rfl
   ·rfl
  ·simp[h]
theorem putCells_intL(l m:List Int)(o:Nat):putCells (intL l) o (intL m)=intL (l.take o++(m++l.drop (o+m.length))):=by
 simp[putCells,intL]
theorem ls_slA{len sz b o:Nat}{args:List Value}{lo' hi mx:Bool}:lsem (.slA len sz lo' hi mx) (.pointer (some ⟨b,o,none⟩)::args) H=(bounds len len lo' hi mx args).map fun(l,h,m)=>.slice (some ⟨b,if m=l then o else o+l*sz,none⟩) (h-l) (m-l):=by simp only[lsem]
theorem bd_hi{len cap:Nat}{k:IntKind}{h:Int}(h0:0≤h)(h1:h≤cap):bounds len cap false true false [.int k h]=some (0,h.toNat,cap):=by
 simp[bounds,toB,h0,h1]
theorem bd_lo{len cap:Nat}{k:IntKind}{l:Int}(h0:0≤l)(h1:l≤len):bounds len cap true false false [.int k l]=some (l.toNat,len,cap):=by
 simp[bounds,toB,h0,h1]
theorem bd_lohi{len cap:Nat}{k k':IntKind}{l h:Int}(h0:0≤l)(h1:l≤h)(h2:h≤cap):bounds len cap true true false [.int k l,.int k' h]=some (l.toNat,h.toNat,cap):=by
 have e:0≤h:=by omega
 have e2:l≤(h.toNat:Int):=by omega
 simp only[bounds,toB,if_true,List.head?_cons,List.tail_cons,Option.bind_some,Bool.false_eq_true,if_false,h0,h2,e,e2,and_self]
theorem bd_no{len cap:Nat}:bounds len cap false false false []=some (0,len,cap):=rfl
theorem ls_slx{sz b o len cap:Nat}{args:List Value}{lo' hi mx:Bool}:lsem (.sl sz lo' hi mx) (.slice (some ⟨b,o,none⟩) len cap::args) H=(bounds len cap lo' hi mx args).map fun(l,h,m)=>.slice (some ⟨b,if m=l then o else o+l*sz,none⟩) (h-l) (m-l):=by simp only[lsem]
theorem ls_sln{sz len cap:Nat}{args:List Value}{lo' hi mx:Bool}:lsem (.sl sz lo' hi mx) (.slice none len cap::args) H=(bounds len cap lo' hi mx args).map fun(l,h,m)=>.slice none (h-l) (m-l):=by simp only[lsem]
theorem ls_sli{sz b o len cap:Nat}{args:List Value}{lo' hi:Bool}:lsem (.sl sz lo' hi false) (.slice (some ⟨b,o,some sz⟩) len cap::args) H=(bounds len cap lo' hi false args).map fun(l,h,m)=>.slice (some ⟨b,o+l*sz,some sz⟩) (h-l) (m-l):=by
 simp only[lsem,if_true]
 cases bounds len cap lo' hi false args with
 | none=>rfl
 | some x=>obtain⟨l,h,m⟩:=x;simp
end heavy
theorem vc_agg(c:Array Value):(Value.agg c).cells=c:=rfl
theorem vc_int(k:IntKind)(n:Int):(Value.int k n).cells=#[.int k n]:=rfl
theorem vc_bool(b:Bool):(Value.bool b).cells=#[.bool b]:=rfl
theorem vc_str(s:ByteArray):(Value.string s).cells=#[.string s]:=rfl
theorem vc_ptr(a:Option Addr):(Value.pointer a).cells=#[.pointer a]:=rfl
theorem vc_sl(a:Option Addr)(n m:Nat):(Value.slice a n m).cells=#[.slice a n m]:=rfl
theorem vc_fn(f:Fn)(a b:Array Value):(Value.func f a b).cells=#[.func f a b]:=rfl
set_option linter.defProp false in
def evB:=And.intro @ev.eq_1 (And.intro @ev.eq_2 (And.intro @ev.eq_3 (And.intro @ev.eq_4 (And.intro @ev.eq_5 (And.intro @ev_pk (And.intro @pickV_t (And.intro @pickV_f (And.intro @pickV_and (And.intro @pickV_or (And.intro @pickV_i (And.intro @ev1.eq_1 (And.intro @evSets.eq_1 (And.intro @evSets.eq_2 (And.intro @evChk.eq_1 (And.intro @evChk.eq_2 (And.intro @evList.eq_1 (And.intro @evList.eq_2 (And.intro @holds.eq_1 (And.intro @holds.eq_2 (And.intro @setAll.eq_1 (And.intro @setAll.eq_2 (And.intro @setD.eq_1 (And.intro @setD.eq_2 (And.intro @ite_some_bool (And.intro @ite_bool (And.intro @ite_int (And.intro @if_true.{1} (And.intro @if_false.{1} (And.intro @Bool.false_eq_true (And.intro @decide_eq_true_eq (And.intro @decide_true (And.intro @decide_false (And.intro @not_true (And.intro @not_false_iff (And.intro @Option.isSome_some.{0} (And.intro @Bool.and_true (And.intro @Bool.and_self (And.intro @wrap_i64 (And.intro @if_pos.{1} (And.intro @if_neg.{1} (And.intro @and_self (And.intro @and_true (And.intro @true_and (And.intro @hs_alloc (And.intro @hs_box (And.intro @hs_mkSl (And.intro @hs_bSlE (And.intro @contig.eq_1 (And.intro @contig.eq_2 (And.intro @sizesOK.eq_1 (And.intro @sizesOK.eq_2 (And.intro @beq_self_eq_true.{0} (And.intro @Nat.zero_mul (And.intro @Bool.true_and (And.intro @Bool.false_and (And.intro @hs_st1i (And.intro @hs_st1b (And.intro @hs_st1s (And.intro @hs_st1p (And.intro @hs_st1t (And.intro @hs_stn (And.intro @hs_app_nil (And.intro @hs_cpy (And.intro @putCells_intL (And.intro @hs_app_in (And.intro @intL_len (And.intro @intL_at (And.intro @intL_set (And.intro @intL_one' (And.intro @intL_take (And.intro @intL_drop (And.intro @zeros_i64 (And.intro @boolL_len (And.intro @boolL_at (And.intro @boolL_set (And.intro @zeros_bool (And.intro @ls_slA (And.intro @ls_slx (And.intro @ls_sln (And.intro @ls_sli (And.intro @bd_hi (And.intro @bd_lo (And.intro @bd_lohi (And.intro @bd_no (And.intro @oneCells_nil (And.intro @oneCells_cons (And.intro @oneCells_app (And.intro @boolL_one' (And.intro @oc_int (And.intro @oc_bool (And.intro @oc_str (And.intro @oc_ptr (And.intro @oc_sl (And.intro @Int.toNat_natCast (And.intro @List.all_cons.{0} (And.intro @List.all_nil.{0} (And.intro @List.toList_toArray.{0} (And.intro @List.map_cons.{0,0} (And.intro @List.map_nil.{0,0} (And.intro @List.getElem?_cons_zero.{0} (And.intro @List.getElem?_cons_succ.{0} (And.intro @List.cons_append.{0} (And.intro @List.nil_append.{0} (And.intro @List.append_nil.{0} (And.intro @List.set_cons_zero.{0} (And.intro @List.set_cons_succ.{0} (And.intro @List.replicate_succ.{0} (And.intro @List.replicate_zero.{0} (And.intro @List.length_cons.{0} (And.intro @List.length_nil.{0} (And.intro @ls_mv (And.intro @ls_add (And.intro @ls_sub (And.intro @ls_mul (And.intro @ls_quo (And.intro @ls_rem (And.intro @ls_and (And.intro @ls_or (And.intro @ls_xor (And.intro @ls_eql (And.intro @ls_neq (And.intro @ls_lss (And.intro @ls_leq (And.intro @ls_gtr (And.intro @ls_geq (And.intro @ls_shl (And.intro @ls_shr (And.intro @ls_eqB (And.intro @ls_eqA (And.intro @ls_eqNn (And.intro @ls_eqNs (And.intro @ls_not (And.intro @ls_neg (And.intro @ls_cvt (And.intro @ls_cvtS (And.intro @ls_nilChk (And.intro @ls_nilChkF (And.intro @ls_fAddr (And.intro @ls_fld1 (And.intro @ls_fldA (And.intro @ls_iAddr (And.intro @ls_iAddrA (And.intro @ls_idx1 (And.intro @ls_idxA (And.intro @ls_ld1 (And.intro @ls_ldA' (And.intro @ls_len (And.intro @ls_lenS (And.intro @ls_lenC (And.intro @ls_ext (And.intro @ls_buildE (And.intro @List.flatMap_cons.{0,0} (And.intro @List.flatMap_nil.{0,0} (And.intro @ls_mkF (And.intro @ls_mkI (And.intro @ls_pk (And.intro @ls_min (And.intro @ls_max (And.intro @Heap.at.eq_1 (And.intro @get_app0 (And.intro @get_appS (And.intro @get_cons0 (And.intro @get_consS (And.intro @get_app_lt (And.intro @get_set_self (And.intro @get_set_ne (And.intro @set_app0 (And.intro @set_appS (And.intro @set_app_lt (And.intro @List.append_assoc.{0} (And.intro @List.length_append.{0} (And.intro @List.length_set.{0} (And.intro @List.getElem?_toArray.{0} (And.intro @List.size_toArray.{0} (And.intro @Option.map_some.{0,0} (And.intro @Option.some.injEq.{0} (And.intro @buildL.eq_1 (And.intro @buildL.eq_2 (And.intro @vc_agg (And.intro @vc_int (And.intro @vc_bool (And.intro @vc_str (And.intro @vc_ptr (And.intro @vc_sl (And.intro @vc_fn (And.intro @putCells_0 (And.intro @putCells_S (And.intro @List.length_take.{0} (And.intro @List.length_drop.{0} (And.intro @List.length_replicate.{0} (And.intro @wrap_u64 (And.intro @wrap_u8 (And.intro @List.take_zero.{0} (And.intro @List.take_succ_cons.{0} (And.intro @List.drop_zero.{0} (And.intro @List.drop_succ_cons.{0} (And.intro @List.take_nil.{0} (And.intro @List.drop_nil.{0} (And.intro @Nat.zero_add (And.intro @Nat.add_zero (And.intro @Nat.mul_one (And.intro @Nat.one_mul @Nat.sub_zero))))))))))))))))))))))))))))))))))))))))))))))))))))))))))))))))))))))))))))))))))))))))))))))))))))))))))))))))))))))))))))))))))))))))))))))))))))))))))))))))))))))))))))))))))))))))))))))))))))))))))
set_option linter.defProp false in
def lenB:=And.intro @List.length_set.{0} (And.intro @List.length_append.{0} (And.intro @List.length_cons.{0} @List.length_nil.{0}))
section
variable {cp:FuncId→Option CF}{lo:Nat}
set_option linter.defProp false in
def ctlB:=And.intro @aw_seq (And.intro @aw_block (And.intro @aw_skip (And.intro @aw_exit (And.intro @aw_ret (And.intro @seqQ_n (And.intro @seqQ_e (And.intro @seqQ_r (And.intro @blockQ_n (And.intro @blockQ_r (And.intro @blockQ_e (And.intro @loopQ_e (And.intro @loopQ_r (And.intro @midQ_n (And.intro @midX_n (And.intro @midX_e (And.intro @midX_r (And.intro @if_true.{1} (And.intro @if_false.{1} (And.intro @setD.eq_1 (And.intro @setD.eq_2 (And.intro @setAll.eq_1 (And.intro @setAll.eq_2 (And.intro @List.set_cons_zero.{0} (And.intro @List.set_cons_succ.{0} (And.intro @vc_agg (And.intro @vc_int (And.intro @vc_bool (And.intro @vc_str (And.intro @vc_ptr @vc_sl)))))))))))))))))))))))))))))
end
end Go.Abs
