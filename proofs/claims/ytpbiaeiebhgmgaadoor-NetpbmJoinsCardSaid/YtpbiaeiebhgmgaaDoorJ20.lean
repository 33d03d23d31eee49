/- Netpbm: Read of the reference. Netpbm: a picture, as the program's parser reads it. Netpbm: Read of the program. -/
import Derived.Test.YtpbiaeiebhgmgaaDoorJ19
set_option linter.unusedVariables false
set_option linter.unusedSimpArgs false
set_option linter.unusedSectionVars false
namespace Go.Proofs.YtpbiaeiebhgmgaaDoor
open Go.Abs
set_option linter.unusedSimpArgs false
set_option linter.unusedVariables false
set_option maxRecDepth 20000
def bodyS(l:List UInt8)(f j w h m:Nat):Int ⊕ (List UInt8×Nat):=if f=1 then iterS (stepB l) ([],j) (w*h) else if f=2 then valsS l j (w*h) m else rawS l j f w h m
structure Pic where
 w:Nat
 h:Nat
 px:List UInt8
 f:Nat
 p:Nat
def readS(l:List UInt8):Int ⊕ Pic:=
 if l.length<2∨l.getD 0 0≠80 then .inl 25 else
 if ¬ ((l.getD 1 0).toNat=49∨(l.getD 1 0).toNat=50∨(l.getD 1 0).toNat=52∨(l.getD 1 0).toNat=53) then .inl 25 else
 match headS l ((l.getD 1 0).toNat-48)with
 | .inl e=>.inl e
 | .inr (w,h,m,j)=>match bodyS l ((l.getD 1 0).toNat-48) j w h m with
  | .inl e=>.inl e
  | .inr (px,p)=>.inr ⟨w,h,px,(l.getD 1 0).toNat-48,p⟩
def isRead(H':Heap)(r:Value)(s:Int ⊕ Pic):Prop:=match s with
 | .inl e=>r=.tuple #[.agg #[.int .i64 0,.int .i64 0,.slice none 0 0],.int .i64 0,.int .i64 0,.int .i64 e]
 | .inr c=>∃u,r=.tuple #[.agg #[.int .i64 (c.w:Nat),.int .i64 (c.h:Nat),u],.int .i64 (c.f:Nat),.int .i64 (c.p:Nat),.int .i64 0]∧SlU H' u c.px
theorem headS_in{l:List UInt8}{f w h m j:Nat}(hl:2≤l.length)(e:headS l f=.inr (w,h,m,j)):1≤w∧w≤4096∧1≤h∧h≤4096∧w*h≤4194304∧1≤m∧m≤255∧j<l.length:=by
 unfold headS at e
 cases h1:hdrS l 2 0 65535 with
 | inl e'=>simp only[h1]at e;cases e
 | inr p=>
  obtain⟨w',i⟩:=p
  have hi:=hdrS_in hl h1
  simp only[h1]at e
  cases h2:hdrS l i 0 65535 with
  | inl e'=>simp only[h2]at e;cases e
  | inr p=>
   obtain⟨h',j'⟩:=p
   have hj:=hdrS_in (by omega) h2
   simp only[h2]at e
   by_cases hp:posB w' h'=false
   ·rw[if_pos hp]at e;cases e
   rw[if_neg hp]at e
   obtain⟨a1,a2,a3,a4,a5⟩:=posB_iff.1 (by simpa using hp)
   have a6:w'*h'≤4194304:=by
    have:((w'*h':Nat):Int)=(w':Int)*(h':Int):=by simp
    omega
   by_cases hf:f=2∨f=5
   ·rw[if_pos hf]at e
    cases h3:hdrS l j' 1 255 with
    | inl e'=>simp only[h3]at e;cases e
    | inr p=>
     obtain⟨m',k⟩:=p
     have hk:=hdrS_in (by omega) h3
     simp only[h3]at e
     cases Sum.inr.inj e
     exact⟨by omega,by omega,by omega,by omega,a6,hk.1,hk.2.1,hk.2.2⟩
   ·rw[if_neg hf]at e
    cases Sum.inr.inj e
    exact⟨by omega,by omega,by omega,by omega,a6,by omega,by omega,hj.2.2⟩
theorem headS_err{l:List UInt8}{f:Nat}{e:Int}(h:headS l f=.inl e):e≠0:=by
 unfold headS at h
 cases h1:hdrS l 2 0 65535 with
 | inl e'=>
  simp only[h1]at h
  have:=Sum.inl.inj h
  have:=hdrS_err h1
  omega
 | inr p=>
  obtain⟨w',i⟩:=p
  simp only[h1]at h
  cases h2:hdrS l i 0 65535 with
  | inl e'=>
   simp only[h2]at h
   have:=Sum.inl.inj h
   have:=hdrS_err h2
   omega
  | inr p=>
   obtain⟨h',j'⟩:=p
   simp only[h2]at h
   by_cases hp:posB w' h'=false
   ·rw[if_pos hp]at h
    have:=Sum.inl.inj h
    omega
   rw[if_neg hp]at h
   by_cases hf:f=2∨f=5
   ·rw[if_pos hf]at h
    cases h3:hdrS l j' 1 255 with
    | inl e'=>
     simp only[h3]at h
     have:=Sum.inl.inj h
     have:=hdrS_err h3
     omega
    | inr p=>simp only[h3]at h;cases h
   ·rw[if_neg hf]at h;cases h
theorem iter_ne{α:Type}{step:α→Int ⊕ α}(hs:∀a e,step a=.inl e→e≠0){a:α}{e:Int}:∀{k:Nat},iterS step a k=.inl e→e≠0
 | 0,h=>by cases h
 | k+1,h=>by
  cases hk:iterS step a k with
  | inl e'=>
   rw[iterS,hk]at h
   cases Sum.inl.inj h
   exact iter_ne hs hk
  | inr x=>
   rw[iter_ok hk]at h
   exact hs _ _ h
theorem bodyS_err{l:List UInt8}{f j w h m:Nat}{e:Int}(hb:bodyS l f j w h m=.inl e):e≠0:=by
 have hB:∀a e,stepB l a=.inl e→e≠0:=by
  intro a e h
  unfold stepB at h
  split at h
  ·cases Sum.inl.inj h;omega
  split at h
  ·cases h
  split at h
  ·cases h
  ·cases Sum.inl.inj h;omega
 have hV:∀a e,stepV l m a=.inl e→e≠0:=by
  intro a e h
  unfold stepV at h
  cases hn:numS l a.2 with
  | inl e'=>simp only[hn]at h;cases Sum.inl.inj h;have:=numS_err hn;omega
  | inr q=>
   obtain⟨n,j⟩:=q
   simp only[hn]at h
   split at h
   ·cases h
   ·cases Sum.inl.inj h;omega
 have hR:∀a e,stepR l m a=.inl e→e≠0:=by
  intro a e h
  unfold stepR at h
  split at h
  ·cases h
  ·cases Sum.inl.inj h;omega
 unfold bodyS at hb
 split at hb
 ·exact iter_ne hB hb
 split at hb
 ·unfold valsS at hb
  cases hi:iterS (stepV l m) ([],j) (w*h)with
  | inl e'=>simp only[hi]at hb;cases Sum.inl.inj hb;exact iter_ne hV hi
  | inr q=>
   obtain⟨px,p⟩:=q
   simp only[hi]at hb
   split at hb
   ·cases Sum.inl.inj hb;omega
   ·cases hb
 ·unfold rawS at hb
  split at hb
  ·cases Sum.inl.inj hb;omega
  split at hb
  ·unfold rawBS at hb
   split at hb
   ·cases hb
   ·cases Sum.inl.inj hb;omega
  ·unfold rawVS at hb
   split at hb
   ·exact iter_ne hR hb
   ·cases Sum.inl.inj hb;omega
theorem slU_set{H:Heap}{B:Nat}{c c':List Value}{u:Value}{px:List UInt8}(h:SlU H u px)(hg:H.get B=some c)(hne:∀x ∈ c,∀d,x≠encU d)(hl:c'.length=c.length):SlU (List.set H B (some c')) u px:=by
 rcases h with h|⟨b,o,sp,cap,xs,h1,h2,h3,h4,h5⟩
 ·exact .inl h
 ·by_cases e:b=B
  ·subst e
   rw[hg]at h2
   cases h2
   cases px with
   | nil=>exact .inr ⟨b,o,sp,cap,c',h1,get_set_self (Heap.get_lt hg),by simp,by rw[hl];exact h4,h5⟩
   | cons d r=>
    exfalso
    have:encU d ∈ (c.drop o).take (d::r).length:=by rw[h3];simp
    exact hne _ (List.mem_of_mem_drop (List.mem_of_mem_take this)) d rfl
  ·exact .inr ⟨b,o,sp,cap,xs,h1,by rw[get_set_ne (fun h=>e h.symm)];exact h2,h3,h4,h5⟩
section
variable {lo:Nat}{H:Heap}{l:List UInt8}
end
end Go.Proofs.YtpbiaeiebhgmgaaDoor
namespace Go.Proofs.YtpbiaeiebhgmgaaDoor
open Go.Abs
set_option linter.unusedSimpArgs false
set_option linter.unusedVariables false
set_option maxRecDepth 20000
def imgS(l:List UInt8)(f:Nat):Int ⊕ Pic:=match headS l f with
 | .inl e=>.inl e
 | .inr (w,h,m,j)=>match bodyS l f j w h m with
  | .inl e=>.inl e
  | .inr (px,p)=>.inr ⟨w,h,px,f,p⟩
theorem imgS_head{l:List UInt8}{f:Nat}{e:Int}(h:headS l f=.inl e):imgS l f=.inl e:=by unfold imgS;rw[h]
theorem imgS_body{l:List UInt8}{f w ht m j:Nat}{e:Int}(h:headS l f=.inr (w,ht,m,j))(hb:bodyS l f j w ht m=.inl e):imgS l f=.inl e:=by unfold imgS;rw[h];simp only[];rw[hb]
theorem imgS_ok{l:List UInt8}{f w ht m j p:Nat}{px:List UInt8}(h:headS l f=.inr (w,ht,m,j))(hb:bodyS l f j w ht m=.inr (px,p)):imgS l f=.inr ⟨w,ht,px,f,p⟩:=by unfold imgS;rw[h];simp only[];rw[hb]
theorem PS_push2{H:Heap}{b:Nat}{v:Value}{i:Nat}{x y:Option (List Value)}(h:b<H.length):PS H b v i++[x,y]=PS (H++[x,y]) b v i:=by
 unfold PS;rw[List.set_append_left _ _ h]
section
variable {lo:Nat}{H:Heap}{b:Nat}{l:List UInt8}{bw ow:Nat}{sp:Option Nat}{cap:Nat}{xs:List Value}
theorem imgP{f:Nat}(hf:f=1∨f=2∨f=4∨f=5)(hs:Src H b l bw ow sp cap xs)(hlo:lo≤b)(hl2:2≤l.length):EvE cp lo 31 [ptr b,kindF f] (PS H b (srcV bw ow sp l cap) 2)
  (fun r H'=>∃H2 c u,imgS l f=.inr c∧Ext H H2∧H'=PS H2 b (srcV bw ow sp l cap) c.p∧r=.agg #[.int .i64 (c.w:Nat),.int .i64 (c.h:Nat),u]∧SlU H' u c.px)
  (fun r H'=>∃H2 e p,imgS l f=.inl e∧Ext H H2∧H'=PS H2 b (srcV bw ow sp l cap) p∧r=errI e):=by
 have hlen:=hs.len
 have hbl:=hs.lt
 refine se31 ?_
 unfold bd31 kindF
 simp only[kB,ctlB]
 repeat' ((first|refine xSNb ?_|refine xONb rfl ?_);(try simp only[ctlB]))
 rw[PS_push2 hbl,PS_len]
 have hxK:Ext H (H++[some [Value.int IntKind.i64 f,Value.bool (f==2 || f==5),Value.bool (f==4 || f==5)],some [Value.int IntKind.i64 0,Value.int IntKind.i64 0,Value.slice none 0 0]]):=Ext.app _ _
 have gkK:(H++[some [Value.int IntKind.i64 f,Value.bool (f==2 || f==5),Value.bool (f==4 || f==5)],some [Value.int IntKind.i64 0,Value.int IntKind.i64 0,Value.slice none 0 0]]).get H.length=some [Value.int IntKind.i64 f,Value.bool (f==2 || f==5),Value.bool (f==4 || f==5)]:=get_app0
 have grK:(H++[some [Value.int IntKind.i64 f,Value.bool (f==2 || f==5),Value.bool (f==4 || f==5)],some [Value.int IntKind.i64 0,Value.int IntKind.i64 0,Value.slice none 0 0]]).get (H.length+1)=some [Value.int IntKind.i64 0,Value.int IntKind.i64 0,Value.slice none 0 0]:=by rw[get_appS];rfl
 have hlK:List.length (H++[some [Value.int IntKind.i64 f,Value.bool (f==2 || f==5),Value.bool (f==4 || f==5)],some [Value.int IntKind.i64 0,Value.int IntKind.i64 0,Value.slice none 0 0]])=H.length+2:=by simp
 generalize H++[some [Value.int IntKind.i64 f,Value.bool (f==2 || f==5),Value.bool (f==4 || f==5)],some [Value.int IntKind.i64 0,Value.int IntKind.i64 0,Value.slice none 0 0]]=HK at hxK gkK grK hlK
 replace hlK:H.length+2≤HK.length∧HK.length≤H.length+2:=by omega
 have hsK:=hs.ext hxK
 refine aw_callE (xENb) (by simp(disch:=first|omega|(simp only[lenB];omega))only[evB,xBNb,Nat.reduceAdd,Nat.reduceBEq, *]) (xENb) (hdrP (a:=0) (c:=65535) hsK hlo hl2) ?_ ?_
 ·rintro r1 H2 ⟨w,j,hw,rfl,rfl⟩
  have hwi:=hdrS_in hl2 hw
  have hloK:lo≤(PS HK b (srcV bw ow sp l cap) j).length:=by rw[PS_len];omega
  have hbK:b<HK.length:=by omega
  (try simp only[ctlB])
  repeat' ((first|refine xSNb ?_|refine xONb rfl ?_);(try simp only[ctlB]))
  rw[PS_push hbK,PS_len]
  have hsM:=hsK.push [Value.int IntKind.i64 w,Value.int IntKind.i64 0,Value.slice none 0 0]
  refine aw_callE (xENb) (by simp(disch:=first|omega|(simp only[lenB];omega))only[evB,xBNb,Nat.reduceAdd,Nat.reduceBEq, *]) (xENb) (hdrP (i:=j) (a:=0) (c:=65535) hsM hlo (by omega)) ?_ ?_
  ·rintro r1 H2 ⟨ht,j2,hh,rfl,rfl⟩
   have hhi:=hdrS_in (by omega) hh
   have gq:=PS_topGet (v:=srcV bw ow sp l cap) (i:=j2) (c:=[Value.int IntKind.i64 w,Value.int IntKind.i64 0,Value.slice none 0 0]) hbK
   have hset:∀c',List.set (PS (HK++[some [Value.int IntKind.i64 w,Value.int IntKind.i64 0,Value.slice none 0 0]]) b (srcV bw ow sp l cap) j2) HK.length (some c')=PS (HK++[some c']) b (srcV bw ow sp l cap) j2:=fun c'=>PS_top hbK
   have gq2:=PS_topGet (v:=srcV bw ow sp l cap) (i:=j2) (c:=[Value.int IntKind.i64 w,Value.int IntKind.i64 ht,Value.slice none 0 0]) hbK
   have hloK2:lo≤HK.length:=by omega
   have hwh:∃x:Int,(w:Int)*(ht:Int)=x∧0≤x∧x≤4294836225:=by
    refine⟨_,rfl,Int.mul_nonneg (by omega) (by omega),?_⟩
    have:=Int.mul_le_mul (a:=(w:Int)) (b:=(ht:Int)) (c:=65535) (d:=65535) (by omega) (by omega) (by omega) (by omega)
    omega
   obtain⟨x,hx,hx0,hx1⟩:=hwh
   have hE:∀c',Ext H (HK++[some c']):=fun c'=>hxK.trans (Ext.app _ _)
   obtain⟨hwi1,hwi2,hwi3⟩:=hwi
   obtain⟨hhi1,hhi2,hhi3⟩:=hhi
   have hS:headS l f=if posB w ht=false then .inl 23 else if f=2∨f=5 then(match hdrS l j2 1 255 with
    | .inl e=>.inl e
    | .inr (m,k)=>.inr (w,ht,m,k)) else .inr (w,ht,1,j2):=by unfold headS;simp only[hw,hh];rfl
   replace hS:False∨_:=.inr hS
   clear hw hh
   (try simp only[ctlB])
   repeat' ((first|refine xSNb ?_|refine xONb rfl ?_);(try simp only[ctlB]))
   refine aw_callE (xENb) (by simp(disch:=first|omega|(simp only[lenB];omega))only[evB,xBNb,Nat.reduceAdd,Nat.reduceBEq, *]) (xENb) checkP ?_ ?_
   ·rintro r1 H2 ⟨rfl,hb1⟩
    (try simp only[ctlB])
    refine aw_callE (xENb) (by simp(disch:=first|omega|(simp only[lenB];omega))only[evB,xBNb,Nat.reduceAdd,Nat.reduceBEq, *]) (xENb) checkP ?_ ?_
    ·rintro r1 H2 ⟨rfl,hb2⟩
     have hpos:¬ posB w ht=false:=by rw[Bool.not_eq_false];unfold posB;rw[hx];simp at hb1 hb2 ⊢;omega
     have hS2:=hS.resolve_left id
     rw[if_neg hpos]at hS2
     replace hS2:False∨_:=.inr hS2
     clear hb1 hb2 hS hset gq
     have hsQ:=hsK.push [Value.int IntKind.i64 w,Value.int IntKind.i64 ht,Value.slice none 0 0]
     have gkQ:∀i,(PS (HK++[some [Value.int IntKind.i64 w,Value.int IntKind.i64 ht,Value.slice none 0 0]]) b (srcV bw ow sp l cap) i).get H.length=some [Value.int IntKind.i64 f,Value.bool (f==2 || f==5),Value.bool (f==4 || f==5)]:=fun i=>by rw[PS_other (by omega),get_app_lt (by omega)];exact gkK
     have grQ:∀i,(PS (HK++[some [Value.int IntKind.i64 w,Value.int IntKind.i64 ht,Value.slice none 0 0]]) b (srcV bw ow sp l cap) i).get (H.length+1)=some [Value.int IntKind.i64 0,Value.int IntKind.i64 0,Value.slice none 0 0]:=fun i=>by rw[PS_other (by omega),get_app_lt (by omega)];exact grK
     have gqQ:∀i,(PS (HK++[some [Value.int IntKind.i64 w,Value.int IntKind.i64 ht,Value.slice none 0 0]]) b (srcV bw ow sp l cap) i).get HK.length=some [Value.int IntKind.i64 w,Value.int IntKind.i64 ht,Value.slice none 0 0]:=fun i=>PS_topGet hbK
     have hxQ:=hE [Value.int IntKind.i64 w,Value.int IntKind.i64 ht,Value.slice none 0 0]
     have hlQ:(HK++[some [Value.int IntKind.i64 w,Value.int IntKind.i64 ht,Value.slice none 0 0]]).length=HK.length+1:=by simp
     clear hE gq2
     generalize HK++[some [Value.int IntKind.i64 w,Value.int IntKind.i64 ht,Value.slice none 0 0]]=HQ at hsQ gkQ grQ gqQ hxQ hlQ ⊢
     replace hlQ:HK.length+1≤HQ.length∧HQ.length≤HK.length+1:=by omega
     have hgr:False∨(f==2 || f==5)=decide (f=2∨f=5):=.inr (by rcases hf with rfl|rfl|rfl|rfl<;>rfl)
     have gk2:=gkQ j2
     (try simp only[ctlB])
     repeat' ((first|refine xSNb ?_|refine xONb rfl ?_);(try simp only[ctlB]))
     refine aw_midX (fun S' H'=>∃m k,headS l f=.inr (w,ht,m,k)∧H'=PS HQ b (srcV bw ow sp l cap) k∧∃(z:Nat→Value),S'=[ptr b,z 1,.pointer (some ⟨H.length,0,none⟩),.pointer (some ⟨H.length+1,0,none⟩),.pointer (some ⟨HK.length,0,none⟩),.int .i64 (m:Nat),z 6,z 7,z 8,z 9,z 10,z 11,z 12,z 13,z 14]) ?_ ?_
     ·by_cases hg:f=2∨f=5
      ·have hd:(f==2 || f==5)=true:=by rw[hgr.resolve_left id];exact decide_eq_true hg
       have hS3:=hS2.resolve_left id
       rw[if_pos hg]at hS3
       replace hS3:False∨_:=.inr hS3
       rw[hd]at gk2
       refine xCNb (fun h=>?_) (fun h=>?_)
       ·(try simp only[ctlB])
        refine aw_callE (xENb) (by simp(disch:=first|omega|(simp only[lenB];omega))only[evB,xBNb,Nat.reduceAdd,Nat.reduceBEq, *]) (xENb) (hdrP (i:=j2) (a:=1) (c:=255) hsQ hlo (by omega)) ?_ ?_
        ·rintro r1 H2 ⟨m,k,hm,rfl,rfl⟩
         (try simp only[ctlB])
         repeat' ((first|refine xSNb ?_|refine xONb rfl ?_);(try simp only[ctlB]))
         exact⟨m,k,by rw[hS3.resolve_left id,hm],rfl,exZNf rfl⟩
        ·rintro r1 H2 ⟨e,k,hm,rfl,rfl⟩
         (repeat (first|rw[blockQ_p (by decide)]|simp only[seqQ_e,loopQ_e,midX_e]));refine bodyE_p ?_
         exact⟨_,e,k,imgS_head (by rw[hS3.resolve_left id,hm]),hxQ,rfl,rfl⟩
       ·exfalso;simp at h
      ·have hd:(f==2 || f==5)=false:=by rw[hgr.resolve_left id];exact decide_eq_false hg
       rw[hd]at gk2
       refine xCNb (fun h=>?_) (fun h=>?_)
       ·exfalso;simp at h
       (try simp only[ctlB])
       exact⟨1,j2,by rw[hS2.resolve_left id,if_neg hg],rfl,exZNf rfl⟩
     ·rintro S' H2 ⟨m,k,hhead,rfl,z,rfl⟩
      obtain⟨q1,q2,q3,q4,q5,q6,q7,q8⟩:=headS_in hl2 hhead
      have hok:=fun px p=>imgS_ok (l:=l) (f:=f) (w:=w) (ht:=ht) (m:=m) (j:=k) (px:=px) (p:=p) hhead
      have hbad:=fun e=>imgS_body (l:=l) (f:=f) (w:=w) (ht:=ht) (m:=m) (j:=k) (e:=e) hhead
      clear hhead hS2 gk2
      have gk2:=gkQ k
      have hraw:False∨(f==4 || f==5)=decide (f=4∨f=5):=.inr (by rcases hf with rfl|rfl|rfl|rfl<;>rfl)
      have g1:=PS_get (v:=srcV bw ow sp l cap) hsQ.lt k
      have g2:=(PS_other (v:=srcV bw ow sp l cap) hsQ.ne k).trans hsQ.get
      have hatk:=hs.at' k q8
      have hbQ:b<(PS HQ b (srcV bw ow sp l cap) k).length:=by rw[PS_len];exact hsQ.lt
      have hsetk:List.set (PS HQ b (srcV bw ow sp l cap) k) b (some [srcV bw ow sp l cap,.int .i64 ((k:Int)+1)])=PS HQ b (srcV bw ow sp l cap) (k+1):=PS_set k (k+1)
      (try simp only[ctlB])
      refine aw_midX (fun S' H'=>∃k',H'=PS HQ b (srcV bw ow sp l cap) k'∧((f=4∨f=5)→wsB (l.getD k 0)=true∧k'=k+1)∧(¬ (f=4∨f=5)→k'=k)∧∃(z:Nat→Value),S'=[ptr b,z 1,.pointer (some ⟨H.length,0,none⟩),.pointer (some ⟨H.length+1,0,none⟩),.pointer (some ⟨HK.length,0,none⟩),.int .i64 (m:Nat),z 6,z 7,z 8,z 9,z 10,z 11,z 12,z 13,z 14]) ?_ ?_
      ·by_cases hr:f=4∨f=5
       ·have hd:(f==4 || f==5)=true:=by rw[hraw.resolve_left id];exact decide_eq_true hr
        have hW:wsB (l.getD k 0)=false→bodyS l f k w ht m=.inl 9:=fun h=>by unfold bodyS rawS;rw[if_neg (by omega),if_neg (by omega),if_pos h]
        rw[hd]at gk2
        generalize hcc:l.getD k 0=c at hatk hW ⊢
        have hcl:=c.toNat_lt
        refine xCNb (fun h=>?_) (fun h=>?_)
        ·(try simp only[ctlB])
         refine xHNb ?_
         refine wpH_callC whiteP ?_
         rintro r1 H2 ⟨rfl,rfl⟩
         (try simp only[ctlB])
         refine aw_callE (xENb) (by simp(disch:=first|omega|(simp only[lenB];omega))only[evB,xBNb,Nat.reduceAdd,Nat.reduceBEq, *]) (xENb) checkP ?_ ?_
         ·rintro r1 H2 ⟨rfl,hws⟩
          replace hws:False∨_:=.inr hws
          clear hW
          (try simp only[ctlB])
          repeat' ((first|refine xSNb ?_|refine xONb rfl ?_);(try simp only[ctlB]))
          exact⟨k+1,rfl,fun _=>⟨hws.resolve_left id,rfl⟩,fun h=>absurd hr h,exZNf rfl⟩
         ·rintro r1 H2 ⟨rfl,hws,rfl⟩
          (repeat (first|rw[blockQ_p (by decide)]|simp only[seqQ_e,loopQ_e,midX_e]));refine bodyE_p ?_
          exact⟨_,9,k,hbad 9 (hW hws),hxQ,rfl,rfl⟩
        ·exfalso;simp at h
       ·have hd:(f==4 || f==5)=false:=by rw[hraw.resolve_left id];exact decide_eq_false hr
        rw[hd]at gk2
        refine xCNb (fun h=>?_) (fun h=>?_)
        ·exfalso;simp at h
        (try simp only[ctlB])
        exact⟨k,rfl,fun h=>absurd h hr,fun _=>rfl,exZNf rfl⟩
      ·rintro S' H2 ⟨k',rfl,hk1,hk2,z,rfl⟩
       have hmul:(w:Int)*(ht:Int)=((w*ht:Nat):Int):=by simp
       clear hx hx0 hx1 hatk hsetk g1 g2 hbQ gk2
       have gqr:=grQ
       replace grQ:False∨_:=.inr grQ
       clear gqr
       (try simp only[ctlB])
       refine aw_midXB (fun S' H'=>∃H3 px p adu cu,bodyS l f k w ht m=.inr (px,p)∧Ext HQ H3∧H'=PS (H3.set HK.length (some [Value.int IntKind.i64 w,Value.int IntKind.i64 ht,Value.slice adu px.length cu])) b (srcV bw ow sp l cap) p∧SlU H' (Value.slice adu px.length cu) px∧∃(z:Nat→Value),S'=[ptr b,z 1,.pointer (some ⟨H.length,0,none⟩),.pointer (some ⟨H.length+1,0,none⟩),.pointer (some ⟨HK.length,0,none⟩),.int .i64 (m:Nat),z 6,z 7,z 8,z 9,z 10,z 11,z 12,z 13,z 14]) ?_ ?_
       ·rcases hf with rfl|rfl|rfl|rfl
        ·have gk3:(PS HQ b (srcV bw ow sp l cap) k').get H.length=some [Value.int IntKind.i64 (1:Nat),Value.bool false,Value.bool false]:=gkQ k'
         have gq3:=gqQ k'
         have hbod:bodyS l 1 k w ht m=iterS (stepB l) ([],k) (w*ht):=rfl
         obtain rfl:k'=k:=hk2 (by omega)
         refine xCNb (fun h=>?_) (fun h=>?_)
         ·exfalso;simp at h
         (try simp only[ctlB])
         refine xCNb (fun h=>?_) (fun h=>?_)
         ·exfalso;simp at h
         (try simp only[ctlB])
         refine xCNb (fun h=>?_) (fun h=>?_)
         ·exfalso;simp at h
         (try simp only[ctlB])
         refine aw_callE (xENb) (by simp(disch:=first|omega|(simp only[lenB];omega))only[evB,xBNb,Nat.reduceAdd,Nat.reduceBEq, *]) (xENb) (bitsP (i:=k') (n:=w*ht) hsQ hlo (by omega) q5) ?_ ?_
         ·rintro r1 H2 ⟨H3,px,p,hpx,hx3,rfl,hu⟩
          have gq4:(PS H3 b (srcV bw ow sp l cap) p).get HK.length=some [Value.int IntKind.i64 w,Value.int IntKind.i64 ht,Value.slice none 0 0]:=by rw[PS_other (by omega)];exact hx3.get ((PS_other (by omega) _).symm.trans gq3)
          obtain⟨adu,cu,rfl⟩:=hu.len
          have hqb:b≠HK.length:=by omega
          have hls3:List.length (PS H3 b (srcV bw ow sp l cap) p)=H3.length:=PS_len p
          have hlx:=hx3.1
          have hset:∀c',List.set (PS H3 b (srcV bw ow sp l cap) p) HK.length (some c')=PS (H3.set HK.length (some c')) b (srcV bw ow sp l cap) p:=fun c'=>PS_comm hqb
          have hu2:=slU_set (c':=[Value.int IntKind.i64 w,Value.int IntKind.i64 ht,Value.slice adu px.length cu]) hu gq4 (by intro x hx d;simp only[List.mem_cons,List.not_mem_nil,or_false]at hx;rcases hx with rfl|rfl|rfl<;>(intro e;cases e)) rfl
          replace hset:False∨_:=.inr hset
          (try simp only[ctlB])
          repeat' ((first|refine xSNb ?_|refine xONb rfl ?_);(try simp only[ctlB]))
          refine⟨H3,px,p,adu,cu,hbod.trans hpx,hx3,?_,hu2,exZNf rfl⟩
          exact hset.resolve_left id _
         ·rintro r1 H2 ⟨H3,e,p,hpx,hx3,rfl,rfl⟩
          (repeat (first|rw[blockQ_p (by decide)]|simp only[seqQ_e,loopQ_e,midX_e]));refine bodyE_p ?_
          exact⟨H3,e,p,hbad e (hbod.trans hpx),hxQ.trans hx3,rfl,rfl⟩
        ·have gk3:(PS HQ b (srcV bw ow sp l cap) k').get H.length=some [Value.int IntKind.i64 (2:Nat),Value.bool true,Value.bool false]:=gkQ k'
         have gq3:=gqQ k'
         have hbod:bodyS l 2 k w ht m=valsS l k (w*ht) m:=rfl
         obtain rfl:k'=k:=hk2 (by omega)
         refine xCNb (fun h=>?_) (fun h=>?_)
         ·exfalso;simp at h
         (try simp only[ctlB])
         refine xCNb (fun h=>?_) (fun h=>?_)
         rotate_left
         ·exfalso;simp at h
         (try simp only[ctlB])
         refine aw_callE (xENb) (by simp(disch:=first|omega|(simp only[lenB];omega))only[evB,xBNb,Nat.reduceAdd,Nat.reduceBEq, *]) (xENb) (valsP (i:=k') (n:=w*ht) (g:=m) hsQ hlo (by omega) q5 q6 q7) ?_ ?_
         ·rintro r1 H2 ⟨H3,px,p,hpx,hx3,rfl,hu⟩
          have gq4:(PS H3 b (srcV bw ow sp l cap) p).get HK.length=some [Value.int IntKind.i64 w,Value.int IntKind.i64 ht,Value.slice none 0 0]:=by rw[PS_other (by omega)];exact hx3.get ((PS_other (by omega) _).symm.trans gq3)
          obtain⟨adu,cu,rfl⟩:=hu.len
          have hqb:b≠HK.length:=by omega
          have hls3:List.length (PS H3 b (srcV bw ow sp l cap) p)=H3.length:=PS_len p
          have hlx:=hx3.1
          have hset:∀c',List.set (PS H3 b (srcV bw ow sp l cap) p) HK.length (some c')=PS (H3.set HK.length (some c')) b (srcV bw ow sp l cap) p:=fun c'=>PS_comm hqb
          have hu2:=slU_set (c':=[Value.int IntKind.i64 w,Value.int IntKind.i64 ht,Value.slice adu px.length cu]) hu gq4 (by intro x hx d;simp only[List.mem_cons,List.not_mem_nil,or_false]at hx;rcases hx with rfl|rfl|rfl<;>(intro e;cases e)) rfl
          replace hset:False∨_:=.inr hset
          (try simp only[ctlB])
          repeat' ((first|refine xSNb ?_|refine xONb rfl ?_);(try simp only[ctlB]))
          refine⟨H3,px,p,adu,cu,hbod.trans hpx,hx3,?_,hu2,exZNf rfl⟩
          exact hset.resolve_left id _
         ·rintro r1 H2 ⟨H3,e,p,hpx,hx3,rfl,rfl⟩
          (repeat (first|rw[blockQ_p (by decide)]|simp only[seqQ_e,loopQ_e,midX_e]));refine bodyE_p ?_
          exact⟨H3,e,p,hbad e (hbod.trans hpx),hxQ.trans hx3,rfl,rfl⟩
        ·have gk3:(PS HQ b (srcV bw ow sp l cap) k').get H.length=some [Value.int IntKind.i64 (4:Nat),Value.bool false,Value.bool true]:=gkQ k'
         have gq3:=gqQ k'
         have hbod:bodyS l 4 k w ht m=rawBS l (k+1) w ht:=by have hws:=(hk1 (.inl rfl)).1;show rawS l k 4 w ht m=_;unfold rawS;rw[if_neg (by rw[hws];simp),if_pos rfl]
         obtain⟨hws,rfl⟩:=hk1 (.inl rfl)
         refine xCNb (fun h=>?_) (fun h=>?_)
         ·exfalso;simp at h
         (try simp only[ctlB])
         refine xCNb (fun h=>?_) (fun h=>?_)
         ·exfalso;simp at h
         (try simp only[ctlB])
         refine xCNb (fun h=>?_) (fun h=>?_)
         rotate_left
         ·exfalso;simp at h
         (try simp only[ctlB])
         refine aw_callE (xENb) (by simp(disch:=first|omega|(simp only[lenB];omega))only[evB,xBNb,Nat.reduceAdd,Nat.reduceBEq, *]) (xENb) (rawbP (i:=k+1) (w:=w) (ht:=ht) hsQ hlo (by omega) q1 q2 q3 q4) ?_ ?_
         ·rintro r1 H2 ⟨H3,px,p,hpx,hx3,rfl,hu⟩
          have gq4:(PS H3 b (srcV bw ow sp l cap) p).get HK.length=some [Value.int IntKind.i64 w,Value.int IntKind.i64 ht,Value.slice none 0 0]:=by rw[PS_other (by omega)];exact hx3.get ((PS_other (by omega) _).symm.trans gq3)
          obtain⟨adu,cu,rfl⟩:=hu.len
          have hqb:b≠HK.length:=by omega
          have hls3:List.length (PS H3 b (srcV bw ow sp l cap) p)=H3.length:=PS_len p
          have hlx:=hx3.1
          have hset:∀c',List.set (PS H3 b (srcV bw ow sp l cap) p) HK.length (some c')=PS (H3.set HK.length (some c')) b (srcV bw ow sp l cap) p:=fun c'=>PS_comm hqb
          have hu2:=slU_set (c':=[Value.int IntKind.i64 w,Value.int IntKind.i64 ht,Value.slice adu px.length cu]) hu gq4 (by intro x hx d;simp only[List.mem_cons,List.not_mem_nil,or_false]at hx;rcases hx with rfl|rfl|rfl<;>(intro e;cases e)) rfl
          replace hset:False∨_:=.inr hset
          (try simp only[ctlB])
          repeat' ((first|refine xSNb ?_|refine xONb rfl ?_);(try simp only[ctlB]))
          refine⟨H3,px,p,adu,cu,hbod.trans hpx,hx3,?_,hu2,exZNf rfl⟩
          exact hset.resolve_left id _
         ·rintro r1 H2 ⟨H3,e,p,hpx,hx3,rfl,rfl⟩
          (repeat (first|rw[blockQ_p (by decide)]|simp only[seqQ_e,loopQ_e,midX_e]));refine bodyE_p ?_
          exact⟨H3,e,p,hbad e (hbod.trans hpx),hxQ.trans hx3,rfl,rfl⟩
        ·have gk3:(PS HQ b (srcV bw ow sp l cap) k').get H.length=some [Value.int IntKind.i64 (5:Nat),Value.bool true,Value.bool true]:=gkQ k'
         have gq3:=gqQ k'
         have hbod:bodyS l 5 k w ht m=rawVS l (k+1) (w*ht) m:=by have hws:=(hk1 (.inr rfl)).1;show rawS l k 5 w ht m=_;unfold rawS;rw[if_neg (by rw[hws];simp),if_neg (by decide)]
         obtain⟨hws,rfl⟩:=hk1 (.inr rfl)
         refine xCNb (fun h=>?_) (fun h=>?_)
         rotate_left
         ·exfalso;simp at h
         (try simp only[ctlB])
         refine aw_callE (xENb) (by simp(disch:=first|omega|(simp only[lenB];omega))only[evB,xBNb,Nat.reduceAdd,Nat.reduceBEq, *]) (xENb) (rawvP (i:=k+1) (n:=w*ht) (g:=m) hsQ hlo (by omega) (Nat.mul_pos (by omega) (by omega)) q5 q6 q7) ?_ ?_
         ·rintro r1 H2 ⟨H3,px,p,hpx,hx3,rfl,hu⟩
          have gq4:(PS H3 b (srcV bw ow sp l cap) p).get HK.length=some [Value.int IntKind.i64 w,Value.int IntKind.i64 ht,Value.slice none 0 0]:=by rw[PS_other (by omega)];exact hx3.get ((PS_other (by omega) _).symm.trans gq3)
          obtain⟨adu,cu,rfl⟩:=hu.len
          have hqb:b≠HK.length:=by omega
          have hls3:List.length (PS H3 b (srcV bw ow sp l cap) p)=H3.length:=PS_len p
          have hlx:=hx3.1
          have hset:∀c',List.set (PS H3 b (srcV bw ow sp l cap) p) HK.length (some c')=PS (H3.set HK.length (some c')) b (srcV bw ow sp l cap) p:=fun c'=>PS_comm hqb
          have hu2:=slU_set (c':=[Value.int IntKind.i64 w,Value.int IntKind.i64 ht,Value.slice adu px.length cu]) hu gq4 (by intro x hx d;simp only[List.mem_cons,List.not_mem_nil,or_false]at hx;rcases hx with rfl|rfl|rfl<;>(intro e;cases e)) rfl
          replace hset:False∨_:=.inr hset
          (try simp only[ctlB])
          repeat' ((first|refine xSNb ?_|refine xONb rfl ?_);(try simp only[ctlB]))
          refine⟨H3,px,p,adu,cu,hbod.trans hpx,hx3,?_,hu2,exZNf rfl⟩
          exact hset.resolve_left id _
         ·rintro r1 H2 ⟨H3,e,p,hpx,hx3,rfl,rfl⟩
          (repeat (first|rw[blockQ_p (by decide)]|simp only[seqQ_e,loopQ_e,midX_e]));refine bodyE_p ?_
          exact⟨H3,e,p,hbad e (hbod.trans hpx),hxQ.trans hx3,rfl,rfl⟩
       ·rintro S' H2 ⟨H3,px,p,adu,cu,hbod,hx3,rfl,hu,z,rfl⟩
        have hlx:=hx3.1
        have gr3:H3.get (H.length+1)=some [Value.int IntKind.i64 0,Value.int IntKind.i64 0,Value.slice none 0 0]:=hx3.get ((PS_other (v:=srcV bw ow sp l cap) (b:=b) (by omega) k).symm.trans (grQ.resolve_left id k))
        have hxX:Ext H (H3.set HK.length (some [Value.int IntKind.i64 w,Value.int IntKind.i64 ht,Value.slice adu px.length cu])):=extSet (hxQ.trans hx3) (by omega)
        have gqX:Heap.get (H3.set HK.length (some [Value.int IntKind.i64 w,Value.int IntKind.i64 ht,Value.slice adu px.length cu])) HK.length=some [Value.int IntKind.i64 w,Value.int IntKind.i64 ht,Value.slice adu px.length cu]:=get_set_self (by omega)
        have grX:Heap.get (H3.set HK.length (some [Value.int IntKind.i64 w,Value.int IntKind.i64 ht,Value.slice adu px.length cu])) (H.length+1)=some [Value.int IntKind.i64 0,Value.int IntKind.i64 0,Value.slice none 0 0]:=by rw[get_set_ne (by omega)];exact gr3
        have hlX:HK.length<(H3.set HK.length (some [Value.int IntKind.i64 w,Value.int IntKind.i64 ht,Value.slice adu px.length cu])).length:=by rw[List.length_set];omega
        generalize H3.set HK.length (some [Value.int IntKind.i64 w,Value.int IntKind.i64 ht,Value.slice adu px.length cu])=X at hxX gqX grX hlX hu ⊢
        have gq5:(PS X b (srcV bw ow sp l cap) p).get HK.length=some [Value.int IntKind.i64 w,Value.int IntKind.i64 ht,Value.slice adu px.length cu]:=by rw[PS_other (by omega)];exact gqX
        have gr5:(PS X b (srcV bw ow sp l cap) p).get (H.length+1)=some [Value.int IntKind.i64 0,Value.int IntKind.i64 0,Value.slice none 0 0]:=by rw[PS_other (by omega)];exact grX
        have hu2:=slU_set (c':=[Value.int IntKind.i64 w,Value.int IntKind.i64 ht,Value.slice adu px.length cu]) hu gr5 (by intro x hx d;simp only[List.mem_cons,List.not_mem_nil,or_false]at hx;rcases hx with rfl|rfl|rfl<;>(intro e;cases e)) rfl
        have hset5:∀c',List.set (PS X b (srcV bw ow sp l cap) p) (H.length+1) (some c')=PS (X.set (H.length+1) (some c')) b (srcV bw ow sp l cap) p:=fun c'=>PS_comm (by omega)
        rw[hset5]at hu2
        have gr6:∀c',(PS (X.set (H.length+1) (some c')) b (srcV bw ow sp l cap) p).get (H.length+1)=some c':=fun c'=>by rw[PS_other (by omega),get_set_self (by omega)]
        have hloR:lo≤H.length+1:=by omega
        have hpic:=hok px p hbod
        replace hpic:False∨_:=.inr hpic
        clear hbod hok hbad
        (try simp only[ctlB])
        repeat' ((first|refine xSNb ?_|refine xONb rfl ?_);(try simp only[ctlB]))
        refine bodyE_r ?_
        unfold cf31
        refine body_ret (xENb) ?_
        exact⟨_,_,_,hpic.resolve_left id,extSet hxX (by omega),rfl,rfl,hu2⟩
    ·rintro r1 H2 ⟨rfl,hb2,rfl⟩
     (repeat (first|rw[blockQ_p (by decide)]|simp only[seqQ_e,loopQ_e,midX_e]));refine bodyE_p ?_
     refine⟨_,23,j2,?_,hE _,rfl,rfl⟩
     refine imgS_head ?_
     rw[hS.resolve_left id,if_pos (by unfold posB;rw[hx];simp at hb1 hb2 ⊢;omega)]
   ·rintro r1 H2 ⟨rfl,hb1,rfl⟩
    (repeat (first|rw[blockQ_p (by decide)]|simp only[seqQ_e,loopQ_e,midX_e]));refine bodyE_p ?_
    refine⟨_,23,j2,?_,hE _,rfl,rfl⟩
    refine imgS_head ?_
    rw[hS.resolve_left id,if_pos (by unfold posB;rw[hx];simp at hb1 ⊢;omega)]
  ·rintro r1 H2 ⟨e,j2,hh,rfl,rfl⟩
   (repeat (first|rw[blockQ_p (by decide)]|simp only[seqQ_e,loopQ_e,midX_e]));refine bodyE_p ?_
   exact⟨_,e,j2,imgS_head (by unfold headS;simp only[hw,hh]),hxK.trans (Ext.app _ _),rfl,rfl⟩
 ·rintro r1 H2 ⟨e,j,hw,rfl,rfl⟩
  (repeat (first|rw[blockQ_p (by decide)]|simp only[seqQ_e,loopQ_e,midX_e]));refine bodyE_p ?_
  exact⟨HK,e,j,imgS_head (by unfold headS;simp only[hw]),hxK,rfl,rfl⟩
end
end Go.Proofs.YtpbiaeiebhgmgaaDoor
namespace Go.Proofs.YtpbiaeiebhgmgaaDoor
open Go.Abs
set_option linter.unusedSimpArgs false
set_option linter.unusedVariables false
set_option maxRecDepth 20000
theorem readS_img{l:List UInt8}(h1:¬ l.length<2)(h2:l.getD 0 0=80){f:Nat}(hf:(l.getD 1 0).toNat=48+f)(hk:f=1∨f=2∨f=4∨f=5):readS l=imgS l f:=by
 unfold readS imgS
 rw[if_neg (by rintro(h|h);exact h1 h;exact h h2),if_neg (not_not_intro (by omega)),show(l.getD 1 0).toNat-48=f by omega]
 all_goals rfl
theorem bodyD_r{cp:FuncId→Option CF}{lo j:Nat}{mid rest:Stm}{res:List E}{R:Value→Heap→Prop}{S:List Value}{H:Heap}{vs:List Value}(h:evList S H res=some vs)(k:R (resultOf vs) H):bodyD cp lo mid j rest res R .ret S H:=by
 simp only[bodyD,resQ,h];exact k
theorem resQ_ok{res:List E}{R:Value→Heap→Prop}{S:List Value}{H:Heap}{vs:List Value}(h:evList S H res=some vs)(k:R (resultOf vs) H):resQ res R S H:=by
 simp only[resQ,h];exact k
theorem PS_self{H:Heap}{b:Nat}{v:Value}{i:Nat}(h:H.get b=some [v,.int .i64 (i:Nat)]):PS H b v i=H:=by
 have hb:=Heap.get_lt h
 unfold PS
 rw[get_of]at h
 refine List.ext_getElem? fun k=>?_
 by_cases e:k=b
 ·subst e
  rw[List.getElem?_set_self hb]
  cases hk:H[k]? with
  | none=>rw[hk]at h;cases h
  | some x=>rw[hk]at h;simp at h;rw[h]
 ·rw[List.getElem?_set_ne (fun h=>e h.symm)]
theorem imgS_f{l:List UInt8}{f:Nat}{c:Pic}(h:imgS l f=.inr c):c.f=f:=by
 unfold imgS at h
 split at h
 ·cases h
 ·split at h
  ·cases h
  ·cases h;rfl
theorem fourSet{A X:Heap}{n:Nat}{u:Value}{px:List UInt8}(hx:Ext A X)(hn:A.length≤n)(hl:n+4≤X.length)
  (p0:X.get n=some [Value.int .i64 0,Value.int .i64 0,Value.slice none 0 0]) (p1:X.get (n+1)=some [Value.int .i64 0]) (p2:X.get (n+2)=some [Value.int .i64 0]) (p3:X.get (n+3)=some [Value.int .i64 0])
  (hu:SlU X u px) (x y z a b c:Value) {Y:Heap} (e:(((X.set n (some [x,y,z])).set (n+1) (some [a])).set (n+2) (some [b])).set (n+3) (some [c])=Y) :
  Ext A Y∧n+4≤Y.length∧Y.get n=some [x,y,z]∧Y.get (n+1)=some [a]∧Y.get (n+2)=some [b]∧Y.get (n+3)=some [c]∧SlU Y u px:=by
 subst e
 have q:∀k,∀x ∈ [Value.int .i64 k],∀d,x≠encU d:=by
  intro k x hx d
  simp only[List.mem_cons,List.not_mem_nil,or_false]at hx
  subst hx
  intro e;cases e
 refine⟨extSet (extSet (extSet (extSet hx hn) (by omega)) (by omega)) (by omega),by simp;omega,?_,?_,?_,?_,?_⟩
 ·rw[get_set_ne (by omega),get_set_ne (by omega),get_set_ne (by omega),get_set_self (by omega)]
 ·rw[get_set_ne (by omega),get_set_ne (by omega),get_set_self (by simp;omega)]
 ·rw[get_set_ne (by omega),get_set_self (by simp;omega)]
 ·rw[get_set_self (by simp;omega)]
 ·refine slU_set (c:=[Value.int .i64 0]) (slU_set (c:=[Value.int .i64 0]) (slU_set (c:=[Value.int .i64 0]) (slU_set hu p0 ?_ rfl) ?_ (q 0) rfl) ?_ (q 0) rfl) ?_ (q 0) rfl
  ·intro x hx d
   simp only[List.mem_cons,List.not_mem_nil,or_false]at hx
   rcases hx with rfl|rfl|rfl<;>(intro e;cases e)
  ·rw[get_set_ne (by omega)];exact p1
  ·rw[get_set_ne (by omega),get_set_ne (by omega)];exact p2
  ·rw[get_set_ne (by omega),get_set_ne (by omega),get_set_ne (by omega)];exact p3
section
variable {lo:Nat}{H:Heap}{l:List UInt8}
theorem readP{v:Value}(hl:SlU H v l)(hlo:lo≤H.length)(hlen:l.length≤4194304):Ev cp lo 13 [v] H (fun r H'=>Ext H H'∧isRead H' r (readS l)):=by
 by_cases h2:l.length<2
 ·obtain⟨ad,c,rfl⟩:=hl.len
  have hr:readS l=.inl 25:=by unfold readS;rw[if_pos (.inl h2)]
  rw[hr]
  have hd:decide ((l.length:Int)<2)=true:=by simp;omega
  refine st13 ?_
  unfold bd13
  simp only[kB,ctlB]
  repeat' ((first|refine xSNb ?_|refine xONb rfl ?_);(try simp only[ctlB]))
  refine xCNb (fun h=>?_) (fun h=>?_)
  ·exfalso;simp at h;omega
  clear h
  (try simp only[ctlB])
  refine xCNb (fun h=>?_) (fun h=>?_)
  ·(try simp only[ctlB])
   repeat' ((first|refine xSNb ?_|refine xONb rfl ?_);(try simp only[ctlB]))
   refine bodyD_r (by unfold cf13;simp(disch:=first|omega|(simp only[lenB];omega))only[evB,xBNb,Nat.reduceAdd,Nat.reduceBEq, *];rfl) ?_
   exact⟨Ext.app _ _,rfl⟩
  ·exfalso;simp at h
 ·obtain⟨bw,ow,sp,cap,xs,rfl,gw,hat,hxl⟩:=hl.els 0 (by omega)
  have hspc:False∨((sp=none∨sp=some 1)∧l.length≤cap):=by
   rcases hl with ⟨h,_⟩|⟨b',o',s',c',x',h,_,_,_,h4,h5⟩
   ·cases h
   ·cases h;exact .inr ⟨h4,h5⟩
  have hat0:xs[ow+Int.toNat 0]?=some (encU (l.getD 0 0)):=hat 0 (by omega)
  have hat1:xs[ow+Int.toNat 1]?=some (encU (l.getD 1 0)):=hat 1 (by omega)
  have gwl:=Heap.get_lt gw
  have hd:decide ((l.length:Int)<2)=false:=by simp;omega
  by_cases h80:l.getD 0 0=80
  ·have hs:Src (H++[some [Value.int IntKind.i64 0,Value.int IntKind.i64 0,Value.slice none 0 0]]) H.length l bw ow sp cap xs→True:=fun _=>trivial
   clear hs
   have e80:((l.getD 0 0).toNat:Int)=80:=by rw[h80];rfl
   have hd80:decide (((l.getD 0 0).toNat:Int)≠80)=false:=decide_eq_false (fun h=>h e80)
   by_cases hk:(l.getD 1 0).toNat=49∨(l.getD 1 0).toNat=50∨(l.getD 1 0).toNat=52∨(l.getD 1 0).toNat=53
   ·obtain⟨f,hf1⟩:∃f:Nat,(l.getD 1 0).toNat=48+f:=⟨(l.getD 1 0).toNat-48,by omega⟩
    have hf:f=1∨f=2∨f=4∨f=5:=by omega
    rw[readS_img h2 h80 hf1 hf]
    have hr:True:=trivial
    have hdf:l.getD 1 0=dig f:=UInt8.toNat_inj.1 (by rw[hf1];unfold dig;rw[UInt8.toNat_ofNat_of_lt' (by show 48+f<256;omega)])
    have hfm:=fmtOk hf
    rw[←hdf]at hfm
    clear hdf hf1
    generalize hc0:l.getD 0 0=c0 at hat0 h80 e80 hd80
    generalize hc1:l.getD 1 0=c1 at hat1 hk hfm
    have hcl0:=c0.toNat_lt
    have hcl1:=c1.toNat_lt
    clear hr hl h80
    replace hat:False∨_:=.inr hat
    replace hfm:False∨_:=.inr hfm
    refine st13 ?_
    unfold bd13
    simp only[kB,ctlB]
    repeat' ((first|refine xSNb ?_|refine xONb rfl ?_);(try simp only[ctlB]))
    refine xCNb (fun h=>?_) (fun h=>?_)
    ·exfalso;simp at h;omega
    clear h
    (try simp only[ctlB])
    refine xCNb (fun h=>?_) (fun h=>?_)
    ·exfalso;simp at h
    clear h
    (try simp only[ctlB])
    have hx0:Ext H (H++[some [Value.int IntKind.i64 0,Value.int IntKind.i64 0,Value.slice none 0 0],some [Value.int IntKind.i64 0],some [Value.int IntKind.i64 0],some [Value.int IntKind.i64 0]]):=Ext.app _ _
    refine xHNb ?_
    refine wpH_call0 (fmtP (c:=c1) (by simp;omega)) ?_
    rw[hfm.resolve_left id]
    rintro r H1 ⟨hx1,rfl⟩
    unfold kindF
    have gq:∀k,k<4→H1.get (H.length+k)=(H++[some [Value.int IntKind.i64 0,Value.int IntKind.i64 0,Value.slice none 0 0],some [Value.int IntKind.i64 0],some [Value.int IntKind.i64 0],some [Value.int IntKind.i64 0]]).get (H.length+k):=fun k hk=>hx1.2 _ (by simp;omega)
    have gq0:H1.get H.length=some [Value.int IntKind.i64 0,Value.int IntKind.i64 0,Value.slice none 0 0]:=(gq 0 (by omega)).trans get_app0
    have gq1:H1.get (H.length+1)=some [Value.int IntKind.i64 0]:=(gq 1 (by omega)).trans (by rw[get_appS];rfl)
    have gq2:H1.get (H.length+2)=some [Value.int IntKind.i64 0]:=(gq 2 (by omega)).trans (by rw[get_appS];rfl)
    have gq3:H1.get (H.length+3)=some [Value.int IntKind.i64 0]:=(gq 3 (by omega)).trans (by rw[get_appS];rfl)
    have hl1:H.length+4≤H1.length:=by have:=hx1.1;simp at this;omega
    have hxx:=hx0.trans hx1
    clear gq hx0 hx1
    (try simp only[ctlB])
    repeat' ((first|refine xSNb ?_|refine xONb rfl ?_);(try simp only[ctlB]))
    refine xCNb (fun h=>?_) (fun h=>?_)
    ·exfalso;simp at h
    (try simp only[ctlB])
    simp only[bodyD]
    unfold md13
    simp only[kB,ctlB]
    repeat' ((first|refine xSNb ?_|refine xONb rfl ?_);(try simp only[ctlB]))
    simp only[midD,List.getElem?_cons_succ,List.getElem?_cons_zero]
    unfold rt13
    simp only[kB,ctlB]
    repeat' ((first|refine xSNb ?_|refine xONb rfl ?_);(try simp only[ctlB]))
    have hgB:Heap.get (H1++[some [Value.int IntKind.i64 f,Value.bool (f==2 || f==5),Value.bool (f==4 || f==5)],some [srcV bw ow sp l cap,Value.int IntKind.i64 2]]) (H1.length+1)=some [srcV bw ow sp l cap,Value.int IntKind.i64 2]:=by rw[get_appS];rfl
    have hkB:Heap.get (H1++[some [Value.int IntKind.i64 f,Value.bool (f==2 || f==5),Value.bool (f==4 || f==5)],some [srcV bw ow sp l cap,Value.int IntKind.i64 2]]) H1.length=some [Value.int IntKind.i64 f,Value.bool (f==2 || f==5),Value.bool (f==4 || f==5)]:=get_app0
    have hxB:Ext H1 (H1++[some [Value.int IntKind.i64 f,Value.bool (f==2 || f==5),Value.bool (f==4 || f==5)],some [srcV bw ow sp l cap,Value.int IntKind.i64 2]]):=Ext.app _ _
    generalize H1++[some [Value.int IntKind.i64 f,Value.bool (f==2 || f==5),Value.bool (f==4 || f==5)],some [srcV bw ow sp l cap,Value.int IntKind.i64 2]]=HB at hgB hkB hxB
    have hsB:Src HB (H1.length+1) l bw ow sp cap xs:=⟨hxB.get (hxx.get gw),hat.resolve_left id,by omega,Heap.get_lt hgB,hlen,(hspc.resolve_left id).1,(hspc.resolve_left id).2⟩
    have hPS:=PS_self (i:=2) hgB
    have hI:=imgP (lo:=lo) hf hsB (by omega) (by omega)
    rw[hPS]at hI
    clear hPS
    have q0:=hxB.get gq0
    have q1:=hxB.get gq1
    have q2:=hxB.get gq2
    have q3:=hxB.get gq3
    clear gq0 gq1 gq2 gq3
    refine aw_callE (xENb) (by simp(disch:=first|omega|(simp only[lenB];omega))only[evB,xBNb,Nat.reduceAdd,Nat.reduceBEq, *]) (xENb) hI ?_ ?_
    ·rintro r H2 ⟨H3,c,u,hc,hx3,rfl,rfl,hu⟩
     obtain⟨adu,cu,rfl⟩:=hu.len
     have hlx:=hx3.1
     have hlB:=hxB.1
     have p0:(PS H3 (H1.length+1) (srcV bw ow sp l cap) c.p).get H.length=some [Value.int IntKind.i64 0,Value.int IntKind.i64 0,Value.slice none 0 0]:=by rw[PS_other (by omega)];exact hx3.get q0
     have p1:(PS H3 (H1.length+1) (srcV bw ow sp l cap) c.p).get (H.length+1)=some [Value.int IntKind.i64 0]:=by rw[PS_other (by omega)];exact hx3.get q1
     have p2:(PS H3 (H1.length+1) (srcV bw ow sp l cap) c.p).get (H.length+2)=some [Value.int IntKind.i64 0]:=by rw[PS_other (by omega)];exact hx3.get q2
     have p3:(PS H3 (H1.length+1) (srcV bw ow sp l cap) c.p).get (H.length+3)=some [Value.int IntKind.i64 0]:=by rw[PS_other (by omega)];exact hx3.get q3
     have hxP:Ext H (PS H3 (H1.length+1) (srcV bw ow sp l cap) c.p):=extSet ((hxx.trans hxB).trans hx3) (by omega)
     have hlP:H.length+4≤(PS H3 (H1.length+1) (srcV bw ow sp l cap) c.p).length:=by rw[PS_len];omega
     have pB:(PS H3 (H1.length+1) (srcV bw ow sp l cap) c.p).get (H1.length+1)=some [srcV bw ow sp l cap,Value.int IntKind.i64 (c.p:Nat)]:=PS_get (by have:=Heap.get_lt hgB;omega) _
     have pK:(PS H3 (H1.length+1) (srcV bw ow sp l cap) c.p).get H1.length=some [Value.int IntKind.i64 f,Value.bool (f==2 || f==5),Value.bool (f==4 || f==5)]:=by rw[PS_other (by omega)];exact hx3.get hkB
     generalize PS H3 (H1.length+1) (srcV bw ow sp l cap) c.p=X at p0 p1 p2 p3 hxP hlP pB pK hu ⊢
     replace hc:False∨_:=.inr hc
     replace hu:False∨_:=.inr hu
     clear q0 q1 q2 q3 hgB hkB
     (try simp only[ctlB])
     repeat' ((first|refine xSNb ?_|refine xONb rfl ?_);(try simp only[ctlB]))
     refine aw_dist (xENb) (xENb) (by right;simp[blockOf];try omega) ?_
     (try simp only[ctlB])
     refine aw_dist (xENb) (xENb) (by right;simp[blockOf];try omega) ?_
     (try simp only[ctlB])
     refine aw_dist (xENb) (xENb) (by right;simp[blockOf];try omega) ?_
     (try simp only[ctlB])
     rw[List.set_set]
     generalize hY:(((X.set H.length (some [.int .i64 (c.w:Nat),.int .i64 (c.h:Nat),.slice adu c.px.length cu])).set (H.length+1) (some [.int .i64 (f:Nat)])).set (H.length+2) (some [.int .i64 (c.p:Nat)])).set (H.length+3) (some [.int .i64 0])=Y
     obtain⟨hxY,hlY,y0,y1,y2,y3,huY⟩:=fourSet hxP (Nat.le_refl _) hlP p0 p1 p2 p3 (hu.resolve_left id) _ _ _ _ _ _ hY
     clear hY p0 p1 p2 p3 pB pK hu
     replace huY:False∨_:=.inr huY
     refine⟨cf30,6,rfl,rfl,rfl,?_⟩
     unfold cf30 bd30
     simp only[kB,ctlB]
     have hloX:lo≤Y.length:=by omega
     have hst:hsem0 lo (.st 1) [.pointer (some ⟨Y.length,0,none⟩),.agg #[.int .i64 0]] (Y++[some [.int .i64 0]])=some (undef,Y++[some [.int .i64 0]]):=by
      have hg:Heap.get (Y++[some [.int .i64 0]]) Y.length=some [.int .i64 0]:=get_app0
      simp only[hsem0,hsem]
      rw[if_pos (by exact⟨rfl,rfl⟩)]
      show Option.map _ (Heap.put lo _ Y.length 0 [Value.int .i64 0])=_
      rw[put_get hg hloX (by simp)]
      simp[putCells]
     repeat' ((first|refine xSNb ?_|refine xONb rfl ?_);(try simp only[ctlB]))
     refine aw_op rfl (xENb) (by simp(disch:=first|omega|(simp only[lenB];omega))only[evB,xBNb,Nat.reduceAdd,Nat.reduceBEq, *]) (xENb) hst (xENb) ?_
     (try simp only[ctlB])
     repeat' ((first|refine xSNb ?_|refine xONb rfl ?_);(try simp only[ctlB]))
     refine xCNb (fun h=>?_) (fun h=>?_)
     ·exfalso;simp at h
     (try simp only[ctlB])
     refine resQ_ok (by unfold cf13;simp(disch:=first|omega|(simp only[lenB];omega))only[evB,xBNb,Nat.reduceAdd,Nat.reduceBEq, *];rfl) ?_
     refine⟨hxY.trans (Ext.app _ _),?_⟩
     rw[hc.resolve_left id]
     have hcf:=imgS_f (hc.resolve_left id)
     exact⟨_,by rw[hcf];rfl,Sl.mono (huY.resolve_left id) (Ext.app _ _)⟩
    ·rintro r H2 ⟨H3,e,p,hc,hx3,rfl,rfl⟩
     have hlx:=hx3.1
     have hlB:=hxB.1
     have p0:(PS H3 (H1.length+1) (srcV bw ow sp l cap) p).get H.length=some [Value.int IntKind.i64 0,Value.int IntKind.i64 0,Value.slice none 0 0]:=by rw[PS_other (by omega)];exact hx3.get q0
     have p1:(PS H3 (H1.length+1) (srcV bw ow sp l cap) p).get (H.length+1)=some [Value.int IntKind.i64 0]:=by rw[PS_other (by omega)];exact hx3.get q1
     have p2:(PS H3 (H1.length+1) (srcV bw ow sp l cap) p).get (H.length+2)=some [Value.int IntKind.i64 0]:=by rw[PS_other (by omega)];exact hx3.get q2
     have p3:(PS H3 (H1.length+1) (srcV bw ow sp l cap) p).get (H.length+3)=some [Value.int IntKind.i64 0]:=by rw[PS_other (by omega)];exact hx3.get q3
     have hxP:Ext H (PS H3 (H1.length+1) (srcV bw ow sp l cap) p):=extSet ((hxx.trans hxB).trans hx3) (by omega)
     have hlP:H.length+4≤(PS H3 (H1.length+1) (srcV bw ow sp l cap) p).length:=by rw[PS_len];omega
     generalize PS H3 (H1.length+1) (srcV bw ow sp l cap) p=X at p0 p1 p2 p3 hxP hlP ⊢
     clear q0 q1 q2 q3 hgB hkB
     simp only[seqQ_e]
     refine⟨rfl,?_⟩
     refine⟨cf30,6,rfl,rfl,rfl,?_⟩
     unfold cf30 bd30 errI
     simp only[kB,ctlB]
     have hloX:lo≤X.length:=by omega
     have hst:hsem0 lo (.st 1) [.pointer (some ⟨X.length,0,none⟩),.agg #[.int .i64 e]] (X++[some [.int .i64 0]])=some (undef,X++[some [.int .i64 e]]):=by
      have hg:Heap.get (X++[some [.int .i64 0]]) X.length=some [.int .i64 0]:=get_app0
      simp only[hsem0,hsem]
      rw[if_pos (by exact⟨rfl,rfl⟩)]
      show Option.map _ (Heap.put lo _ X.length 0 [Value.int .i64 e])=_
      rw[put_get hg hloX (by simp)]
      simp[putCells]
     repeat' ((first|refine xSNb ?_|refine xONb rfl ?_);(try simp only[ctlB]))
     refine aw_op rfl (xENb) (by simp(disch:=first|omega|(simp only[lenB];omega))only[evB,xBNb,Nat.reduceAdd,Nat.reduceBEq, *]) (xENb) hst (xENb) ?_
     (try simp only[ctlB])
     repeat' ((first|refine xSNb ?_|refine xONb rfl ?_);(try simp only[ctlB]))
     refine xCNb (fun h=>?_) (fun h=>?_)
     ·(try simp only[ctlB])
      repeat' ((first|refine xSNb ?_|refine xONb rfl ?_);(try simp only[ctlB]))
      refine aw_dist (xENb) (xENb) (by right;simp[blockOf];try omega) ?_
      (try simp only[ctlB])
      refine aw_dist (xENb) (xENb) (by right;simp[blockOf];try omega) ?_
      (try simp only[ctlB])
      refine aw_dist (xENb) (xENb) (by right;simp[blockOf];try omega) ?_
      (try simp only[ctlB])
      refine resQ_ok (by unfold cf13;simp(disch:=first|omega|(simp only[lenB];omega))only[evB,xBNb,Nat.reduceAdd,Nat.reduceBEq, *];rfl) ?_
      refine⟨(extSet (extSet (extSet (extSet hxP (by omega)) (by omega)) (by omega)) (by omega)).trans (Ext.app _ _),?_⟩
      rw[hc]
      rfl
     ·exfalso;simp at h
   ·have hr:readS l=.inl 25:=by unfold readS;rw[if_neg (by rintro(h|h);exact h2 h;exact h h80),if_pos hk]
    rw[hr]
    generalize hc0:l.getD 0 0=c0 at hat0 h80 e80 hd80
    generalize hc1:l.getD 1 0=c1 at hat1 hk
    have hcl0:=c0.toNat_lt
    have hcl1:=c1.toNat_lt
    clear hat hr hl h80
    refine st13 ?_
    unfold bd13
    simp only[kB,ctlB]
    repeat' ((first|refine xSNb ?_|refine xONb rfl ?_);(try simp only[ctlB]))
    refine xCNb (fun h=>?_) (fun h=>?_)
    ·exfalso;simp at h;omega
    clear h
    (try simp only[ctlB])
    refine xCNb (fun h=>?_) (fun h=>?_)
    ·exfalso;simp at h
    clear h
    (try simp only[ctlB])
    have hx0:Ext H (H++[some [Value.int IntKind.i64 0,Value.int IntKind.i64 0,Value.slice none 0 0],some [Value.int IntKind.i64 0],some [Value.int IntKind.i64 0],some [Value.int IntKind.i64 0]]):=Ext.app _ _
    refine xHNb ?_
    refine wpH_call0 (fmtP (c:=c1) (by simp;omega)) ?_
    rw[if_neg (by omega),if_neg (by omega),if_neg (by omega),if_neg (by omega)]
    rintro r H1 ⟨hx1,rfl⟩
    unfold kindV
    have gq:∀k,k<4→H1.get (H.length+k)=(H++[some [Value.int IntKind.i64 0,Value.int IntKind.i64 0,Value.slice none 0 0],some [Value.int IntKind.i64 0],some [Value.int IntKind.i64 0],some [Value.int IntKind.i64 0]]).get (H.length+k):=fun k hk=>hx1.2 _ (by simp;omega)
    have gq0:H1.get H.length=some [Value.int IntKind.i64 0,Value.int IntKind.i64 0,Value.slice none 0 0]:=(gq 0 (by omega)).trans get_app0
    have gq1:H1.get (H.length+1)=some [Value.int IntKind.i64 0]:=(gq 1 (by omega)).trans (by rw[get_appS];rfl)
    have gq2:H1.get (H.length+2)=some [Value.int IntKind.i64 0]:=(gq 2 (by omega)).trans (by rw[get_appS];rfl)
    have gq3:H1.get (H.length+3)=some [Value.int IntKind.i64 0]:=(gq 3 (by omega)).trans (by rw[get_appS];rfl)
    have hl1:H.length+4≤H1.length:=by have:=hx1.1;simp at this;omega
    have hxx:=hx0.trans hx1
    clear gq hx0 hx1
    (try simp only[ctlB])
    repeat' ((first|refine xSNb ?_|refine xONb rfl ?_);(try simp only[ctlB]))
    refine xCNb (fun h=>?_) (fun h=>?_)
    ·(try simp only[ctlB])
     repeat' ((first|refine xSNb ?_|refine xONb rfl ?_);(try simp only[ctlB]))
     refine bodyD_r (by unfold cf13;simp(disch:=first|omega|(simp only[lenB];omega))only[evB,xBNb,Nat.reduceAdd,Nat.reduceBEq, *];rfl) ?_
     exact⟨(extSet (extSet (extSet (extSet hxx (by omega)) (by omega)) (by omega)) (by omega)).trans (Ext.app _ _),rfl⟩
    ·exfalso;simp at h
  ·have hr:readS l=.inl 25:=by unfold readS;rw[if_pos (.inr h80)]
   rw[hr]
   generalize hc0:l.getD 0 0=c0 at hat0 h80
   have hcl0:=c0.toNat_lt
   have hd80:decide ((c0.toNat:Int)≠80)=true:=by
    simp
    intro e
    exact h80 (UInt8.toNat_inj.1 (by rw[show c0.toNat=80 by omega];rfl))
   clear hat hr hl
   refine st13 ?_
   unfold bd13
   simp only[kB,ctlB]
   repeat' ((first|refine xSNb ?_|refine xONb rfl ?_);(try simp only[ctlB]))
   refine xCNb (fun h=>?_) (fun h=>?_)
   ·exfalso;simp at h;omega
   clear h
   (try simp only[ctlB])
   refine xCNb (fun h=>?_) (fun h=>?_)
   ·(try simp only[ctlB])
    repeat' ((first|refine xSNb ?_|refine xONb rfl ?_);(try simp only[ctlB]))
    refine bodyD_r (by unfold cf13;simp(disch:=first|omega|(simp only[lenB];omega))only[evB,xBNb,Nat.reduceAdd,Nat.reduceBEq, *];rfl) ?_
    exact⟨Ext.app _ _,rfl⟩
   ·exfalso;simp at h
end
end Go.Proofs.YtpbiaeiebhgmgaaDoor
