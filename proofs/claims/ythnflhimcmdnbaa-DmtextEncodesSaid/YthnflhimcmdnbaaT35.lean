/- Dmtext, the reference: values of six bits packed. Dmtext, the reference: the choice; the codewords along it. -/
import Derived.Test.YthnflhimcmdnbaaT34
set_option linter.unusedVariables false
set_option linter.unusedSimpArgs false
set_option linter.unusedSectionVars false
namespace Go.Proofs.Ythnflhimcmdnbaa
open Go.Abs
set_option linter.unusedSimpArgs false
set_option linter.unusedVariables false
set_option maxRecDepth 20000
def bitR(l:List Nat)(k:Nat):Nat:=l.getD (k/6) 0/2^(5-k%6)%2
def pkR(l:List Nat):Nat→List Nat
 | 0=>List.replicate ((6*l.length+7)/8) 0
 | k+1=>if bitR l k=1 then(pkR l k).set (k/8) ((pkR l k).getD (k/8) 0+2^(7-k%8)) else pkR l k
def packR(l:List Nat):List Nat:=pkR l (6*l.length)
theorem pkR_len(l:List Nat):∀k,(pkR l k).length=(6*l.length+7)/8
 | 0=>by simp[pkR]
 | k+1=>by unfold pkR;split<;>simp[pkR_len l k]
theorem pow_le7{d:Nat}(h:d≤7):2^d≤128:=by
 have:d=0∨d=1∨d=2∨d=3∨d=4∨d=5∨d=6∨d=7:=by omega
 rcases this with rfl|rfl|rfl|rfl|rfl|rfl|rfl|rfl<;>decide
theorem pkR_le(l:List Nat):∀k j,(pkR l k).getD j 0≤128*k
 | 0,j=>by simp only[pkR,List.getD_eq_getElem?_getD,List.getElem?_replicate];split<;>simp
 | k+1,j=>by
  have h0:=pkR_le l k j
  have h1:=pkR_le l k (k/8)
  have h2:=pow_le7 (d:=7-k%8) (by omega)
  unfold pkR
  split
  ·by_cases hk:k/8<(pkR l k).length
   ·rw[getD_set hk]
    split<;>omega
   ·rw[List.set_eq_of_length_le (by omega)];omega
  ·omega
theorem bit_and{x d:Nat}(hx:x<64)(hd:d<6):IntKind.i64.wrap ((BitVec.ofInt IntKind.i64.bits ((x:Int).fdiv (2^(min d IntKind.i64.bits))) &&& BitVec.ofInt IntKind.i64.bits 1).toNat:Int)=((x/2^d%2:Nat):Int):=by
 have h:∀x:Fin 64,∀d:Fin 6,IntKind.i64.wrap ((BitVec.ofInt IntKind.i64.bits ((x.val:Int).fdiv (2^(min d.val IntKind.i64.bits))) &&& BitVec.ofInt IntKind.i64.bits 1).toNat:Int)=((x.val/2^d.val%2:Nat):Int):=by decide
 exact h ⟨x,hx⟩ ⟨d,hd⟩
theorem one_shl{d:Nat}(hd:d≤7):IntKind.i64.wrap (1*2^(min d IntKind.i64.bits))=((2^d:Nat):Int):=by
 have h:∀d:Fin 8,IntKind.i64.wrap (1*2^(min d.val IntKind.i64.bits))=((2^d.val:Nat):Int):=by decide
 exact h ⟨d,by omega⟩
section
variable {lo:Nat}{H:Heap}
theorem packedP{w:Value}{b:Nat}{l:List Nat}(ho:Own lo 1 H w b (uN l))(hl:1≤l.length∧l.length≤100000)(hb:∀k,l.getD k 0<64)(hlo:lo≤H.length):Ev cp lo 22 [w] H (fun r H'=>Ext H H'∧r=.slice (some ⟨H.length,0,none⟩) ((6*l.length+7)/8) ((6*l.length+7)/8)∧H'.get H.length=some (uN (packR l))):=by
 obtain⟨hl0,hl1⟩:=hl
 obtain⟨rfl,hg⟩:w=.slice (some ⟨b,0,some 1⟩) l.length l.length∧H.get b=some (uN l):=by
  obtain⟨_,⟨_,h⟩|⟨n,_,hn,hw,hg⟩⟩:=ho
  ·have:=congrArg List.length h
   simp at this
   subst this
   simp at hl0
  ·have:n=l.length:=by simpa using hn
   subst this
   exact⟨hw,hg⟩
 clear ho
 have hbl:=Heap.get_lt hg
 obtain⟨q,hq,hqN⟩:∃q,((6*(l.length:Int)+7).tdiv 8=((q:Nat):Int))∧(6*l.length+7)/8=q:=⟨(6*l.length+7)/8,by rw[Int.tdiv_eq_ediv_of_nonneg (by omega)];omega,rfl⟩
 have hqb:6*l.length≤8*q∧q≤100000:=by omega
 have hpl:∀k,(pkR l k).length=q:=fun k=>(pkR_len l k).trans hqN
 rw[hqN]
 have hp0:uN (pkR l 0)=List.replicate q (encN 0):=by
  show uN (List.replicate ((6*l.length+7)/8) 0)=_
  rw[hqN,uN,List.map_replicate]
 clear hqN
 unfold packR
 replace hpl:False∨_:=.inr hpl
 replace hp0:False∨_:=.inr hp0
 refine st22 ?_;unfold bd22 cf22;simp only[kB,ctlB]
 repeat' ((first|refine xSDg ?_|refine xODg rfl ?_);(try simp only[ctlB]))
 have hxb:Ext H (H++[some (intL (List.replicate q 0))]):=Ext.app _ _
 have hgb:(H++[some (intL (List.replicate q 0))]).get H.length=some (uN (pkR l 0)):=by
  rw[get_app0,hp0.resolve_left id]
  simp[intL]
 generalize H++[some (intL (List.replicate q 0))]=Hb at hxb hgb
 refine aw_for (fun k S H'=>(Ext H H'∧H'.get H.length=some (uN (pkR l k)))∧∃(z:Nat→Value),S=[.slice (some ⟨b,0,some 1⟩) l.length l.length,z 1,.slice (some ⟨H.length,0,none⟩) q q,.int .i64 (k:Nat),z 4]) (6*l.length) ⟨⟨hxb,hgb⟩,exZDe rfl⟩ ?_ ?_ ?_
 ·rintro k S H' hk ⟨_,z,rfl⟩
  exact⟨decide ((k:Int)<6*(l.length:Nat)),by simp(disch:=first|omega|(simp only[lenB];omega))only[evB,xBDc,Nat.reduceAdd,Nat.reduceBEq,Int.reduceToNat, *],by simp;omega⟩
 ·rintro k S H1 hk ⟨⟨hx1,hg1⟩,z,rfl⟩
  clear hxb hgb
  have hgl:=hx1.get hg
  have hl1:=Heap.get_lt hg1
  have q1:(k:Int).tdiv 6=((k/6:Nat):Int):=by rw[Int.tdiv_eq_ediv_of_nonneg (by omega)];omega
  have q2:(k:Int).tdiv 8=((k/8:Nat):Int):=by rw[Int.tdiv_eq_ediv_of_nonneg (by omega)];omega
  have q3:5-(k:Int).tmod 6=((5-k%6:Nat):Int):=by rw[Int.tmod_eq_emod_of_nonneg (by omega)];omega
  have q4:7-(k:Int).tmod 8=((7-k%8:Nat):Int):=by rw[Int.tmod_eq_emod_of_nonneg (by omega)];omega
  have hb1:=hb (k/6)
  have hk6:k/6<l.length:=by omega
  have hk8:k/8<q:=by omega
  have hat:=uN_at hk6
  have hba:=bit_and (d:=5-k%6) hb1 (by omega)
  have hbr:bitR l k=l.getD (k/6) 0/2^(5-k%6)%2:=rfl
  have hst:pkR l (k+1)=if bitR l k=1 then(pkR l k).set (k/8) ((pkR l k).getD (k/8) 0+2^(7-k%8)) else pkR l k:=rfl
  have hlek:=pkR_le l k (k/8)
  have hlk:=hpl.resolve_left id k
  have h2p:=pow_le7 (d:=7-k%8) (by omega)
  have hsh:=one_shl (d:=7-k%8) (by omega)
  rw[hst]
  rw[←hbr]at hba
  clear hst hbr
  have hbl:bitR l k<2:=Nat.mod_lt _ (by omega)
  have hat2:=uN_at (cs:=pkR l k) (k:=k/8) (by omega)
  generalize bitR l k=bt at hba hbl ⊢
  generalize pkR l k=P at hg1 hlek hlk hat2 ⊢
  generalize P.getD (k/8) 0=y at hat2 hlek ⊢
  generalize l.getD (k/6) 0=x at hat hba hb1
  have hd5:5-k%6≤5:=by omega
  generalize 5-k%6=d5 at q3 hba hd5
  have hd7:7-k%8≤7:=by omega
  generalize 7-k%8=d7 at q4 hsh h2p hd7 ⊢
  generalize 2^d7=pw at hsh h2p ⊢
  have hsets:False∨(uN P).set (k/8) (encN (y+pw))=uN (P.set (k/8) (y+pw)):=.inr (by simp[uN,List.map_set])
  have hul:(uN P).length≤q∧q≤(uN P).length:=by simp;omega
  have hul2:(uN l).length≤l.length∧l.length≤(uN l).length:=by simp
  obtain⟨Y,hY⟩:∃Y,False∨uN P=Y:=⟨_,.inr rfl⟩
  rw[hY.resolve_left id]at hg1 hat2 hsets hul
  obtain⟨UL,hUL⟩:∃UL,False∨uN l=UL:=⟨_,.inr rfl⟩
  rw[hUL.resolve_left id]at hat hul2 hgl
  generalize k/8=k8 at *
  generalize k/6=k6 at *
  (try simp only[ctlB])
  by_cases hbt:bt=1
  ·have hd:decide ((bt:Int)=1)=true:=decide_eq_true (by omega)
   rw[if_pos hbt]
   refine xCDg (fun h=>?_) (fun h=>?_)
   ·(try simp only[ctlB])
    repeat' ((first|refine xSDg ?_|refine xODg rfl ?_);(try simp only[ctlB]))
    have hs:Y.set k8 (Value.int .i64 ((y:Int)+(pw:Nat)))=uN (P.set k8 (y+pw)):=by rw[←hsets.resolve_left id];rfl
    have hk7:Keep H.length H1 (List.set H1 H.length (some (Y.set k8 (Value.int .i64 ((y:Int)+(pw:Nat)))))):=keepSet
    have hg7:Heap.get (List.set H1 H.length (some (Y.set k8 (Value.int .i64 ((y:Int)+(pw:Nat)))))) H.length=some (Y.set k8 (Value.int .i64 ((y:Int)+(pw:Nat)))):=get_set_self (by omega)
    exact⟨⟨hk7.ext hx1 (Nat.le_refl _),by rw[hg7,hs]⟩,exZDe (by first|rfl|(simp only[Int.natCast_add,Int.natCast_one];rfl)|simp only[Int.natCast_add,Int.natCast_one])⟩
   ·exfalso;first|cases h|(simp at h;done)
  ·have hd:decide ((bt:Int)=1)=false:=decide_eq_false (by omega)
   rw[if_neg hbt]
   refine xCDg (fun h=>?_) (fun h=>?_)
   ·exfalso;first|cases h|(simp at h;done)|(simp at h;omega)
   ·(try simp only[ctlB])
    repeat' ((first|refine xSDg ?_|refine xODg rfl ?_);(try simp only[ctlB]))
    exact⟨⟨hx1,by rw[hY.resolve_left id];exact hg1⟩,exZDe (by first|rfl|(simp only[Int.natCast_add,Int.natCast_one];rfl)|simp only[Int.natCast_add,Int.natCast_one])⟩
 ·rintro S H1 ⟨⟨hx1,hg1⟩,z,rfl⟩
  (try simp only[ctlB])
  repeat' ((first|refine xSDg ?_|refine xODg rfl ?_);(try simp only[ctlB]))
  refine xRDg ?_
  exact⟨hx1,rfl,hg1⟩
end
end Go.Proofs.Ythnflhimcmdnbaa
namespace Go.Proofs.Ythnflhimcmdnbaa
open Go.Abs
set_option linter.unusedSimpArgs false
set_option linter.unusedVariables false
set_option maxRecDepth 20000
theorem less_trans{a b c:RS}(h:lessR a b=true)(g:lessR b c=true):lessR a c=true:=by
 unfold lessR at *
 repeat' split at h
 all_goals (repeat' split at g)
 all_goals (repeat' split)
 all_goals (simp only[decide_eq_true_eq]at *;omega)
theorem chS_fold{C:List Nat}{t:Nat}:∀(L D:List RS) (s:RS×Bool),
  ((s.2=false∧∀x ∈ D,totR C x≠t)∨(s.2=true∧s.1 ∈ D∧totR C s.1=t∧∀y ∈ D,totR C y=t→lessR y s.1=false)) →
  (((L.foldl (chS C t) s).2=false∧∀x ∈ D++L,totR C x≠t)∨((L.foldl (chS C t) s).2=true∧(L.foldl (chS C t) s).1 ∈ D++L∧totR C (L.foldl (chS C t) s).1=t∧∀y ∈ D++L,totR C y=t→lessR y (L.foldl (chS C t) s).1=false))
 | [],D,s,h=>by simpa using h
 | x::L,D,s,h=>by
  have ir:lessR x x=false:=by simp[lessR]
  have key:(((chS C t s x).2=false∧∀y ∈ D++[x],totR C y≠t)∨((chS C t s x).2=true∧(chS C t s x).1 ∈ D++[x]∧totR C (chS C t s x).1=t∧∀y ∈ D++[x],totR C y=t→lessR y (chS C t s x).1=false)):=by
   unfold chS
   by_cases ht:totR C x=t
   ·by_cases hb:s.2=false∨lessR x s.1=true
    ·rw[if_pos ⟨ht,hb⟩]
     refine .inr ⟨rfl,by simp,ht,fun y hy hyt=>?_⟩
     rcases List.mem_append.1 hy with hy|hy
     ·rcases h with ⟨h1,h2⟩|⟨h1,h2,h3,h4⟩
      ·exact absurd hyt (h2 y hy)
      ·rcases hb with hb|hb
       ·rw[h1]at hb;cases hb
       ·cases hl:lessR y x with
        | false=>rfl
        | true=>
         have:=less_trans hl hb
         rw[h4 y hy hyt]at this
         cases this
     ·obtain rfl:=List.mem_singleton.1 hy
      exact ir
    ·rw[if_neg (fun h=>hb h.2)]
     rcases h with ⟨h1,h2⟩|⟨h1,h2,h3,h4⟩
     ·exact absurd (.inl h1) hb
     ·refine .inr ⟨h1,List.mem_append_left _ h2,h3,fun y hy hyt=>?_⟩
      rcases List.mem_append.1 hy with hy|hy
      ·exact h4 y hy hyt
      ·obtain rfl:=List.mem_singleton.1 hy
       exact Bool.eq_false_iff.2 fun e=>hb (.inr e)
   ·rw[if_neg (fun h=>ht h.1)]
    rcases h with ⟨h1,h2⟩|⟨h1,h2,h3,h4⟩
    ·refine .inl ⟨h1,fun y hy=>?_⟩
     rcases List.mem_append.1 hy with hy|hy
     ·exact h2 y hy
     ·obtain rfl:=List.mem_singleton.1 hy
      exact ht
    ·refine .inr ⟨h1,List.mem_append_left _ h2,h3,fun y hy hyt=>?_⟩
     rcases List.mem_append.1 hy with hy|hy
     ·exact h4 y hy hyt
     ·obtain rfl:=List.mem_singleton.1 hy
      exact absurd hyt ht
  have:=chS_fold L (D++[x]) (chS C t s x) key
  simpa using this
def endR(p:List UInt8)(n:RN):Prop:=n.m=0∧n.i=p.length
theorem cho_ok{p:List UInt8}{C:List Nat}{n:RN}(h:SolR p C)(hn:n.ok p.length)(hf:C.getD (idxR n) 0<1099511627776)(he:¬ endR p n) :
  choR p n C ∈ stepsR p n∧totR C (choR p n C)=C.getD (idxR n) 0∧∀y ∈ stepsR p n,totR C y=C.getD (idxR n) 0→lessR y (choR p n C)=false:=by
 have hc:=chS_fold (C:=C) (t:=C.getD (idxR n) 0) (stepsR p n) [] (zeroR,false) (.inl ⟨rfl,by simp⟩)
 rw[List.nil_append]at hc
 rcases hc with ⟨_,h2⟩|⟨_,h2,h3,h4⟩
 ·exfalso
  have e:=h.eq n hn
  rcases best_ex (p:=p) (n:=n) (C:=C)with g|⟨x,hx,g⟩
  ·rw[←e]at g
   unfold base0 at g
   rw[if_neg (show ¬ (n.m=0∧n.i=p.length) from he)]at g
   omega
  ·exact h2 x hx (by rw[e,g])
 ·exact⟨h2,h3,h4⟩
theorem unitL_cases{p:List UInt8}{n:RN}{x:RS}:∀k,k≤40→x ∈ unitL p n k→(x=⟨254,-1,-1,1,⟨n.i,0,0,0,false⟩⟩∧n.ph=0)∨∃v t,v<k∧unitR p n v=some t∧x=⟨v,-1,-1,if n.ph=0 then 2 else 0,t⟩
 | 0,_,hx=>by
  unfold unitL at hx
  split at hx
  ·rename_i h
   exact .inl ⟨List.mem_singleton.1 hx,h⟩
  ·cases hx
 | k+1,hk,hx=>by
  unfold unitL at hx
  rcases List.mem_append.1 hx with hx|hx
  ·rcases unitL_cases k (by omega) hx with h|⟨v,t,h1,h2,h3⟩
   ·exact .inl h
   ·exact .inr ⟨v,t,by omega,h2,h3⟩
  ·cases hu:unitR p n k with
   | none=>rw[hu]at hx;cases hx
   | some t=>
    rw[hu]at hx
    exact .inr ⟨k,t,by omega,hu,List.mem_singleton.1 hx⟩
theorem unitR_to{p:List UInt8}{n t:RN}{v:Nat}(h:unitR p n v=some t):t.m=n.m∧t.ph=(n.ph+1)%3:=by
 unfold unitR at h
 repeat' split at h
 all_goals cases h
 all_goals exact⟨rfl,rfl⟩
def StA(p:List UInt8)(n:RN)(x:RS):Prop:=(∃d,(1≤d∧d≤1749)∧n.i+d≤p.length∧x=runR n.i d)∨(x.w≠231∧x.t=-1∧x.to.ph=0∧((x.s=-1∧x.c=1)∨(∃d:Nat,d≤255∧x.s=(d:Int)∧x.c=2)))
theorem startsR_cases{p:List UInt8}{n:RN}{x:RS}(hn:n.ok p.length)(hx:x ∈ startsR p n.i):StA p n x:=by
 have hi:=hn.i
 unfold startsR at hx
 simp only[List.mem_append]at hx
 rcases hx with (((hx|hx)|hx)|hx)|hx
 ·unfold pairR at hx
  split at hx
  ·rename_i hc
   obtain⟨h1,h2,h3⟩:=hc
   have h2:=digB_iff.1 h2
   have h3:=digB_iff.1 h3
   obtain rfl:=List.mem_singleton.1 hx
   exact .inr ⟨by simp only;omega,rfl,rfl,.inl ⟨rfl,rfl⟩⟩
  ·cases hx
 ·unfold lowR at hx
  split at hx
  ·obtain rfl:=List.mem_singleton.1 hx
   exact .inr ⟨by simp only;omega,rfl,rfl,.inl ⟨rfl,rfl⟩⟩
  ·cases hx
 ·unfold highR at hx
  split at hx
  ·have:=by_lt p n.i
   obtain rfl:=List.mem_singleton.1 hx
   exact .inr ⟨by simp,rfl,rfl,.inr ⟨_,by omega,rfl,rfl⟩⟩
  ·cases hx
 ·unfold latR at hx
  obtain⟨j,hj,rfl⟩:=List.mem_map.1 hx
  have:=List.mem_range.1 hj
  refine .inr ⟨?_,rfl,rfl,.inl ⟨rfl,rfl⟩⟩
  have:j=0∨j=1∨j=2∨j=3:=by omega
  rcases this with rfl|rfl|rfl|rfl<;>simp[latW]
 ·unfold runsR at hx
  obtain⟨j,hj,rfl⟩:=List.mem_map.1 hx
  have:=List.mem_range.1 hj
  exact .inl ⟨j+1,by omega,by omega,rfl⟩
theorem edisR_cases{p:List UInt8}{n:RN}{x:RS}(hx:x ∈ edisR p n):x.c=ediC n∧((x=⟨31,-1,-1,ediC n,asR n.i⟩)∨((n.i<p.length∧32≤by' p n.i∧by' p n.i≤94)∧x=⟨by' p n.i%64,-1,-1,ediC n,⟨n.i+1,4,(n.ph+1)%4,0,false⟩⟩)):=by
 unfold edisR at hx
 rcases List.mem_append.1 hx with hx|hx
 ·obtain rfl:=List.mem_singleton.1 hx
  exact⟨rfl,.inl rfl⟩
 ·split at hx
  ·rename_i h
   obtain rfl:=List.mem_singleton.1 hx
   exact⟨rfl,.inr ⟨h,rfl⟩⟩
  ·cases hx
def rkR(n:RN):Nat:=if n.m=0 then 0 else if n.m=4 then(if n.ph=3 then 1 else 0) else(if n.ph=0 then 0 else 3-n.ph)
def mea(C:List Nat)(n:RN):Nat:=4*C.getD (idxR n) 0+rkR n
def runZ(p:List UInt8)(W:List Nat)(i:Nat):Nat→List Nat
 | 0=>W
 | k+1=>runZ p W i k++[(by' p (i+k)+msk (runZ p W i k).length)%256]
theorem runZ_len(p:List UInt8)(W:List Nat)(i:Nat):∀k,(runZ p W i k).length=W.length+k
 | 0=>rfl
 | k+1=>by simp[runZ,runZ_len p W i k];omega
def secR(x:RS)(W:List Nat):List Nat:=W++[(x.s.toNat+msk W.length)%256]
def thiR(x:RS)(W:List Nat):List Nat:=if 0≤x.t then W++[(x.t.toNat+msk W.length)%256] else W
def trR(Pt:List Nat)(w:Nat):Nat:=1600*Pt.getD 0 0+40*Pt.getD 1 0+w+1
def emitR(p:List UInt8)(n:RN)(x:RS)(W Pt:List Nat):List Nat×List Nat:=
 if n.m=0 then
  if x.w=231 then(runZ p (thiR x (secR x (W++[231]))) n.i (x.to.i-n.i),Pt)
  else(W++[x.w]++if 0≤x.s then[x.s.toNat] else[],Pt)
 else if n.m=4 then if x.w=31 then(W++packR (Pt++[31]),[]) else(W,Pt++[x.w])
 else if x.w=254 then(W++[254],Pt)
 else if Pt.length=2 then(W++[trR Pt x.w/256,trR Pt x.w%256],[]) else(W,Pt++[x.w])
def encR(p:List UInt8)(C:List Nat):Nat→RN→List Nat→List Nat→List Nat
 | 0,_,W,_=>W
 | f+1,n,W,Pt=>if n.m≠0∨n.i<p.length then encR p C f (choR p n C).to (emitR p n (choR p n C) W Pt).1 (emitR p n (choR p n C) W Pt).2 else W
structure InvR (p:List UInt8)(C:List Nat)(B:Nat)(n:RN)(W Pt:List Nat):Prop where
 ok:n.ok p.length
 fin:C.getD (idxR n) 0<1099511627776
 pt0:n.m=0→Pt=[]
 pt3:1≤n.m∧n.m≤3→Pt.length=n.ph
 ptv:∀k,Pt.getD k 0<64
 sz:W.length+Pt.length+2*mea C n≤B
theorem packR_len(l:List Nat):(packR l).length=(6*l.length+7)/8:=pkR_len _ _
theorem getD_snoc{l:List Nat}{x B:Nat}(h:∀k,l.getD k 0<B)(hx:x<B):∀k,(l++[x]).getD k 0<B:=by
 intro k
 by_cases hk:k<l.length
 ·have:=h k
  simp only[List.getD_eq_getElem?_getD]at this ⊢
  rw[List.getElem?_append_left hk]
  exact this
 ·rw[List.getD_eq_getElem?_getD,List.getElem?_append_right (by omega)]
  by_cases e:k-l.length=0
  ·rw[e];simpa using hx
  ·rw[List.getElem?_eq_none (by simp;omega)];simp;omega
theorem step_mea{p:List UInt8}{C:List Nat}{n:RN}{x:RS}(hn:n.ok p.length)(hx:x ∈ stepsR p n)(ht:totR C x=C.getD (idxR n) 0):mea C x.to<mea C n∧mea C x.to+4*x.c≤mea C n+rkR x.to:=by
 have hi:totR C x=x.c+C.getD (idxR x.to) 0:=rfl
 rw[hi]at ht
 obtain⟨h3,h4,h5⟩:=hn.ph
 have h2:=hn.m
 refine⟨?_,by unfold mea;omega⟩
 have hr:rkR x.to≤3:=by unfold rkR;split<;>(try split)<;>(try split)<;>omega
 unfold mea
 by_cases hc:1≤x.c
 ·omega
 ·have hc0:x.c=0:=by omega
  suffices rkR x.to<rkR n by omega
  unfold stepsR at hx
  split at hx
  ·rcases startsR_cases hn hx with ⟨d,_,_,rfl⟩|⟨_,_,_,⟨_,h⟩|⟨_,_,_,h⟩⟩
   ·exfalso;unfold runR at hc0;split at hc0<;>simp at hc0
   ·omega
   ·omega
  ·rename_i hm0
   split at hx
   ·rename_i hm4
    have:=h4 hm4
    rcases unitL_cases 40 (by omega) hx with ⟨rfl,_⟩|⟨v,t,_,hu,rfl⟩
    ·cases hc0
    ·obtain⟨e1,e2⟩:=unitR_to hu
     have hph:n.ph≠0:=fun e=>by simp[e]at hc0
     simp only
     unfold rkR
     rw[e1,e2,if_neg hm0,if_neg hm4,if_neg hm0,if_neg hm4,if_neg hph]
     have:n.ph=1∨n.ph=2:=by omega
     rcases this with e|e<;>rw[e]<;>decide
   ·rename_i hm4
    have hm4:n.m=4:=Decidable.not_not.1 hm4
    obtain⟨hcc,hx⟩:=edisR_cases hx
    have hp3:n.ph=3:=by
     unfold ediC at hcc
     split at hcc
     ·assumption
     ·omega
    have hrn:rkR n=1:=by unfold rkR;rw[if_neg hm0,if_pos hm4,if_pos hp3]
    rw[hrn]
    rcases hx with rfl|⟨_,rfl⟩
    ·exact Nat.zero_lt_one
    ·simp only[rkR,hp3];decide
theorem inv_step{p:List UInt8}{C:List Nat}{B:Nat}{n:RN}{x:RS}{W Pt:List Nat}(h:InvR p C B n W Pt)(hx:x ∈ stepsR p n)(ht:totR C x=C.getD (idxR n) 0):InvR p C B x.to (emitR p n x W Pt).1 (emitR p n x W Pt).2:=by
 obtain⟨hn,hf,g0,g3,gv,gs⟩:=h
 have hok:=(stepsR_ok hn x hx).to
 obtain⟨hm1,hm2⟩:=step_mea hn hx ht
 have hi:totR C x=x.c+C.getD (idxR x.to) 0:=rfl
 have hfx:C.getD (idxR x.to) 0<1099511627776:=by omega
 obtain⟨h3,h4,h5⟩:=hn.ph
 have h2:=hn.m
 unfold stepsR at hx
 unfold emitR
 by_cases hm0:n.m=0
 ·rw[if_pos hm0]at hx
  rw[if_pos hm0]
  have hp:=g0 hm0
  subst hp
  rcases startsR_cases hn hx with ⟨d,hd,hdl,rfl⟩|⟨hw,_,hph,hs⟩
  ·have hw:(runR n.i d).w=231:=by unfold runR;split<;>rfl
   have hto:(runR n.i d).to=asR (n.i+d):=by unfold runR;split<;>rfl
   rw[if_pos hw]
   have hrk:rkR (runR n.i d).to=0:=by rw[hto];rfl
   refine⟨hok,hfx,fun _=>rfl,fun e=>?_,gv,?_⟩
   ·rw[hto]at e;simp[asR]at e
   ·have hl:(thiR (runR n.i d) (secR (runR n.i d) (W++[231]))).length+d≤W.length+(runR n.i d).c:=by
     unfold thiR secR runR
     split
     ·simp;omega
     ·rw[if_pos (by simp only;omega)];simp;omega
    have hdd:(runR n.i d).to.i-n.i=d:=by rw[hto];simp[asR]
    simp only[runZ_len,hdd,List.length_nil]at gs ⊢
    omega
  ·rw[if_neg hw]
   have hrk:rkR x.to=0:=by unfold rkR;rw[hph];simp
   refine⟨hok,hfx,fun _=>rfl,fun e=>by rw[hph];rfl,gv,?_⟩
   rcases hs with ⟨hs,hc⟩|⟨d,_,hs,hc⟩
   ·rw[hs]
    simp at gs ⊢;omega
   ·rw[hs,if_pos (by omega)]
    simp at gs ⊢;omega
 ·rw[if_neg hm0]at hx
  rw[if_neg hm0]
  by_cases hm4:n.m=4
  ·rw[if_neg (by omega)]at hx
   rw[if_pos hm4]
   obtain⟨hcc,hx⟩:=edisR_cases hx
   rcases hx with rfl|⟨⟨e1,e2,e3⟩,rfl⟩
   ·simp only[if_true]
    refine⟨hok,hfx,fun _=>rfl,fun e=>rfl,by simp,?_⟩
    simp only[List.length_append,packR_len,List.length_cons,List.length_nil]
    simp only at hm1
    omega
   ·simp only
    rw[if_neg (by omega)]
    refine⟨hok,hfx,fun e=>by simp at e,fun e=>by simp at e,getD_snoc gv (by omega),?_⟩
    simp only[List.length_append,List.length_cons,List.length_nil]
    simp only at hm1
    omega
  ·rw[if_pos hm4]at hx
   rw[if_neg hm4]
   have hp3:=g3 (by omega)
   rcases unitL_cases 40 (by omega) hx with ⟨rfl,hph⟩|⟨v,t,hv,hu,rfl⟩
   ·simp only[if_true]
    have hpn:Pt=[]:=List.eq_nil_of_length_eq_zero (by omega)
    subst hpn
    refine⟨hok,hfx,fun _=>rfl,fun e=>by simp at e,gv,?_⟩
    simp only at hm1
    simp only[List.length_append,List.length_cons,List.length_nil]at gs ⊢
    omega
   ·obtain⟨e1,e2⟩:=unitR_to hu
    simp only at hm1 hm2 hfx hok ⊢
    rw[if_neg (by omega)]
    by_cases hl:Pt.length=2
    ·rw[if_pos hl]
     refine⟨hok,hfx,fun _=>rfl,fun e=>?_,by simp,?_⟩
     ·rw[e2];simp only[List.length_nil];omega
     ·simp only[List.length_append,List.length_cons,List.length_nil]
      omega
    ·rw[if_neg hl]
     have:=h4 hm4
     refine⟨hok,hfx,fun e=>by omega,fun e=>?_,getD_snoc gv (by omega),?_⟩
     ·rw[e2];simp only[List.length_append,List.length_cons,List.length_nil];omega
     ·simp only[List.length_append,List.length_cons,List.length_nil]
      omega
theorem low_mem{p:List UInt8}{i:Nat}(hi:i<p.length):∃x ∈ startsR p i,x.c≤2∧x.to=asR (i+1):=by
 unfold startsR
 by_cases h:by' p i<128
 ·refine⟨⟨by' p i+1,-1,-1,1,asR (i+1)⟩,?_,by simp,rfl⟩
  simp only[List.mem_append]
  refine .inl (.inl (.inl (.inr ?_)))
  unfold lowR
  rw[if_pos ⟨hi,h⟩];simp
 ·refine⟨⟨235,(by' p i-127:Nat),-1,2,asR (i+1)⟩,?_,by simp,rfl⟩
  simp only[List.mem_append]
  refine .inl (.inl (.inr ?_))
  unfold highR
  rw[if_pos ⟨hi,by omega⟩];simp
theorem costR_asc{p:List UInt8}{C:List Nat}(h:SolR p C):∀m i,i+m=p.length→C.getD (idxR (asR i)) 0≤2*m
 | 0,i,e=>by
  rw[h.eq _ (asR_ok (by omega))]
  refine Nat.le_trans best_le ?_
  unfold base0
  rw[if_pos ⟨rfl,by simp only[asR];omega⟩]
  omega
 | m+1,i,e=>by
  have h3:=costR_asc h m (i+1) (by omega)
  obtain⟨x,hx,hc,hto⟩:=low_mem (p:=p) (i:=i) (by omega)
  rw[h.eq _ (asR_ok (by omega))]
  have:=best_step (p:=p) (n:=asR i) (C:=C) (x:=x) (by unfold stepsR;rw[if_pos (show(asR i).m=0 from rfl)];exact hx)
  have ht:totR C x=x.c+C.getD (idxR x.to) 0:=rfl
  rw[hto]at ht
  omega
theorem inv_start{p:List UInt8}{C:List Nat}(h:SolR p C)(hl:p.length≤4096):InvR p C 70000 (asR 0) [] []:=by
 have:=costR_asc h p.length 0 (by omega)
 refine⟨asR_ok (by omega),by omega,fun _=>rfl,fun e=>rfl,by simp,?_⟩
 have:rkR (asR 0)=0:=rfl
 unfold mea
 simp only[List.length_nil]
 omega
end Go.Proofs.Ythnflhimcmdnbaa
