/- Netpbm: raw bodies. Netpbm: raw bitmaps. Netpbm: raw bodies of the reference. -/
import Derived.Test.YtpbiaeiebhgmgaaDoorJ18
set_option linter.unusedVariables false
set_option linter.unusedSimpArgs false
set_option linter.unusedSectionVars false
namespace Go.Proofs.YtpbiaeiebhgmgaaDoor
open Go.Abs
set_option linter.unusedSimpArgs false
set_option linter.unusedVariables false
set_option maxRecDepth 20000
def stepR(l:List UInt8)(m:Nat)(s:List UInt8×Nat):Int ⊕ (List UInt8×Nat):=
 if (l.getD s.2 0).toNat≤m then .inr (s.1++[scal (l.getD s.2 0).toNat m],s.2+1) else .inl 3
theorem raws_in{l:List UInt8}{i m:Nat}:∀{k:Nat} {x:List UInt8×Nat},iterS (stepR l m) ([],i) k=.inr x→x.1.length=k∧x.2=i+k
 | 0,x,h=>by cases Sum.inr.inj h;exact⟨rfl,rfl⟩
 | k+1,x,h=>by
  cases hk:iterS (stepR l m) ([],i) k with
  | inl e=>rw[iterS,hk]at h;cases h
  | inr y=>
   rw[iter_ok hk]at h
   have h1:=raws_in hk
   unfold stepR at h
   split at h
   ·cases Sum.inr.inj h;simp;omega
   ·cases h
theorem wpH_appIn{cp:FuncId→Option CF}{lo B k n t:Nat}{z:List Value}{X:Heap}{A R:List Value}{y c:Value}{Q:Value→Heap→Prop}(hB:X.get B=some (A++y::R))(hk:A.length=k)(hn:k<n)(hlo:lo≤B)(ht:X.get t=some [c])(hc:oneCells [c]=true)
  (q:Q (.slice (some ⟨B,0,none⟩) (k+1) n) (X.set B (some (A++c::R)))):wpH cp lo (.app 1 z) [.slice (some ⟨B,0,none⟩) k n,.slice (some ⟨t,0,none⟩) 1 1] X Q:=by
 have e1:X.cells t 0 (1*1)=some [c]:=by rw[cells_get ht (by simp)];rfl
 have e2:X.put lo B (0+k*1) [c]=some (X.set B (some (A++c::R))):=by
  rw[put_get hB hlo (by simp;omega),putCells_one (by simp;omega)]
  congr 3
  rw[Nat.zero_add,Nat.mul_one,←hk]
  simp
 simp only[wpH,hsem0,hsem,e1,Option.bind_some,hc,if_true,appendSem]
 rw[if_pos (by omega)]
 simp only[true_or,if_true,e2,Option.map_some]
 exact q
section
variable {lo:Nat}{H:Heap}{b:Nat}{l:List UInt8}{bw ow:Nat}{sp:Option Nat}{cap:Nat}{xs:List Value}
theorem takeP{i n:Nat}(hs:Src H b l bw ow sp cap xs)(hlo:lo≤b)(hi:i≤l.length)(hn:n≤4294967296):EvE cp lo 54 [ptr b,.int .i64 (n:Nat)] (PS H b (srcV bw ow sp l cap) i)
  (fun r H'=>n≤l.length-i∧H'=PS H b (srcV bw ow sp l cap) (i+n)∧∃o' cap',r=.slice (some ⟨bw,o',sp⟩) n cap'∧∀k,k<n→xs[o'+k]?=some (encU (l.getD (i+k) 0)))
  (fun r H'=>¬ n≤l.length-i∧r=errI 10∧H'=PS H b (srcV bw ow sp l cap) i):=by
 have hlen:=hs.len
 have hcap:=hs.cap
 have g1:=PS_get (v:=srcV bw ow sp l cap) hs.lt i
 have g4:b<(PS H b (srcV bw ow sp l cap) i).length:=by rw[PS_len];exact hs.lt
 refine se54 ?_
 unfold bd54
 simp only[kB,ctlB]
 repeat' ((first|refine xSNb ?_|refine xONb rfl ?_);(try simp only[ctlB]))
 refine aw_callE (xENb) (by simp(disch:=first|omega|(simp only[lenB];omega))only[evB,xBNb,Nat.reduceAdd,Nat.reduceBEq, *]) (xENb) checkP ?_ ?_
 ·rintro r1 H2 ⟨rfl,hb⟩
  have hnl:n≤l.length-i:=by simp at hb;omega
  clear hb
  obtain⟨o',ho',hsl⟩:∃o',(o'=ow+i∨n=0)∧∀H',lsem (.sl 1 true true false) [srcV bw ow sp l cap,.int .i64 (i:Nat),.int .i64 ((i:Int)+(n:Int))] H'=some (.slice (some ⟨bw,o',sp⟩) n (cap-i)):=by
   have e1:(((i:Int)+(n:Int)).toNat)-i=n:=by omega
   rcases hs.sp1 with rfl|rfl
   ·refine⟨if cap=i then ow else ow+i*1,?_,fun H'=>?_⟩
    ·split
     ·right;omega
     ·left;omega
    ·rw[ls_slx,bd_lohi (by omega) (by omega) (by omega)]
     simp only[Option.map_some,Int.toNat_natCast,e1]
   ·refine⟨ow+i*1,by left;omega,fun H'=>?_⟩
    rw[ls_sli,bd_lohi (by omega) (by omega) (by omega)]
    simp only[Option.map_some,Int.toNat_natCast,e1]
  replace ho':False∨_:=.inr ho'
  (try simp only[ctlB])
  repeat' ((first|refine xSNb ?_|refine xONb rfl ?_);(try simp only[ctlB]))
  refine bodyE_r ?_
  unfold cf54
  refine body_ret (xENb) ?_
  refine⟨hnl,PS_set i (i+n),o',cap-i,rfl,fun k hk=>?_⟩
  rcases ho'.resolve_left id with e|e
  ·rw[e,Nat.add_assoc];exact hs.at' (i+k) (by omega)
  ·omega
 ·rintro r1 H2 ⟨rfl,hb,rfl⟩
  have hnl:¬ n≤l.length-i:=by simp at hb;omega
  (repeat (first|rw[blockQ_p (by decide)]|simp only[seqQ_e,loopQ_e,midX_e]));refine bodyE_p ?_
  exact⟨hnl,rfl,rfl⟩
theorem extSet{A X:Heap}{j:Nat}{c:Option (List Value)}(h:Ext A X)(hj:A.length≤j):Ext A (X.set j c):=
 ⟨by rw[List.length_set];exact h.1,fun i hi=>by rw[get_set_ne (by omega)];exact h.2 i hi⟩
theorem Src.ext{H2:Heap}(hs:Src H b l bw ow sp cap xs)(hx:Ext H H2):Src H2 b l bw ow sp cap xs:=
 ⟨hx.get hs.get,hs.at',hs.ne,Nat.lt_of_lt_of_le hs.lt hx.1,hs.len,hs.sp1,hs.cap⟩
theorem PS_comm{X:Heap}{j i:Nat}{v:Value}{c:Option (List Value)}(h:b≠j):List.set (PS X b v i) j c=PS (X.set j c) b v i:=by
 unfold PS;rw[List.set_comm _ _ h]
def rawVS(l:List UInt8)(i n m:Nat):Int ⊕ (List UInt8×Nat):=if n≤l.length-i then iterS (stepR l m) ([],i) n else .inl 10
theorem rawvP{i n g:Nat}(hs:Src H b l bw ow sp cap xs)(hlo:lo≤b)(hi:i≤l.length)(hn0:0<n)(hn:n≤4194304)(hg1:1≤g)(hg2:g≤255):EvE cp lo 42 [ptr b,.int .i64 (n:Nat),.int .i64 (g:Nat)] (PS H b (srcV bw ow sp l cap) i)
  (pixR H b (srcV bw ow sp l cap) (rawVS l i n g)) (pixK H b (srcV bw ow sp l cap) (rawVS l i n g)):=by
 have hlen:=hs.len
 have hbl:=hs.lt
 have hln:(PS H b (srcV bw ow sp l cap) i).length=H.length:=PS_len i
 refine se42 ?_
 unfold bd42
 simp only[kB,ctlB]
 repeat' ((first|refine xSNb ?_|refine xONb rfl ?_);(try simp only[ctlB]))
 rw[PS_push hbl,zeros_u8]
 have hxz:Ext H (H++[some (List.replicate n (Value.int .u8 0))]):=Ext.app _ _
 have hgz:(H++[some (List.replicate n (Value.int .u8 0))]).get H.length=some (List.replicate n (Value.int .u8 0)):=get_app0
 have hlz:H.length<(H++[some (List.replicate n (Value.int .u8 0))]).length:=by simp
 generalize H++[some (List.replicate n (Value.int .u8 0))]=Hz at hxz hgz hlz
 have hsz:=hs.ext hxz
 refine aw_callE (xENb) (by simp(disch:=first|omega|(simp only[lenB];omega))only[evB,xBNb,Nat.reduceAdd,Nat.reduceBEq, *]) (xENb) (takeP (n:=n) hsz hlo hi (by omega)) ?_ ?_
 ·rintro r1 H2 ⟨hnl,rfl,o',cap',rfl,hato⟩
  have hW:rawVS l i n g=iterS (stepR l g) ([],i) n:=by unfold rawVS;rw[if_pos hnl]
  rw[hW]
  clear hW
  replace hato:False∨_:=.inr hato
  (try simp only[ctlB])
  repeat' ((first|refine xSNb ?_|refine xONb rfl ?_);(try simp only[ctlB]))
  refine aw_for (fun k S H'=>∃px p H2,iterS (stepR l g) ([],i) k=.inr (px,p)∧Ext H H2∧H.length<H2.length∧H2.get H.length=some (uL px++List.replicate (n-k) (Value.int .u8 0))∧H'=PS H2 b (srcV bw ow sp l cap) (i+n)∧∃(z:Nat→Value),S=[ptr b,.int .i64 (n:Nat),.int .i64 (g:Nat),z 3,.slice (some ⟨H.length,0,none⟩) k n,z 5,z 6,.slice (some ⟨bw,o',sp⟩) n cap',.int .i64 (n:Nat),.int .i64 (k:Nat),z 10,z 11,z 12,z 13]) n ?_ ?_ ?_ ?_
  ·exact⟨[],i,Hz,rfl,hxz,hlz,hgz,rfl,exZNf rfl⟩
  ·rintro k S H' hk ⟨px,p,H2,_,_,_,_,_,z,rfl⟩
   exact⟨_,xENb,by simp⟩
  ·rintro k S H' hkn ⟨px,p,H2,hk,hx2,hl2,hg2',rfl,z,rfl⟩
   obtain⟨hpl,hp⟩:=raws_in hk
   simp only[]at hpl hp
   subst hp
   have hst:∀y,stepR l g (px,i+k)=y→iterS (stepR l g) ([],i) (k+1)=y:=fun y h=>(iter_ok hk).trans h
   have hall:∀e,stepR l g (px,i+k)=.inl e→iterS (stepR l g) ([],i) n=.inl e:=fun e h=>iter_err (hst _ h) n hkn
   replace hst:False∨_:=.inr hst
   replace hall:False∨_:=.inr hall
   clear hk
   obtain⟨r,hr1,hr2⟩:∃r,n-k≤r+1∧r+1≤n-k:=⟨n-k-1,by omega,by omega⟩
   have hnk:n-k=r+1:=by omega
   have hr3:n-(k+1)=r:=by omega
   rw[hnk,List.replicate_succ]at hg2'
   clear hnk
   replace hr3:False∨_:=.inr hr3
   have hs2:=hs.ext hx2
   have hat:=hato.resolve_left id k hkn
   have hsR:stepR l g (px,i+k)=if (l.getD (i+k) 0).toNat≤g then .inr (px++[scal (l.getD (i+k) 0).toNat g],i+k+1) else .inl 3:=rfl
   generalize l.getD (i+k) 0=c at hat hsR
   have hcl:=c.toNat_lt
   have g2:=(PS_other (v:=srcV bw ow sp l cap) hs2.ne (i+n)).trans hs2.get
   (try simp only[ctlB])
   repeat' ((first|refine xSNb ?_|refine xONb rfl ?_);(try simp only[ctlB]))
   refine aw_callE (xENb) (by simp(disch:=first|omega|(simp only[lenB];omega))only[evB,xBNb,Nat.reduceAdd,Nat.reduceBEq, *]) (xENb) checkP ?_ ?_
   ·rintro r1 H3 ⟨rfl,hb⟩
    have hcg:c.toNat≤g:=by simp at hb;omega
    clear hb
    rw[if_pos hcg]at hsR
    replace hsR:False∨_:=.inr hsR
    (try simp only[ctlB])
    refine xHNb ?_
    refine wpH_call0 (gryP hcg hg1 hg2) ?_
    rintro r1 H3 ⟨rfl,rfl⟩
    generalize scal c.toNat g=d at hsR ⊢
    (try simp only[ctlB])
    repeat' ((first|refine xSNb ?_|refine xONb rfl ?_);(try simp only[ctlB]))
    rw[PS_push hs2.lt,PS_len]
    have gB:(PS (H2++[some [encU d]]) b (srcV bw ow sp l cap) (i+n)).get H.length=some (uL px++Value.int .u8 0::List.replicate r (Value.int .u8 0)):=by rw[PS_other (by omega),get_app_lt hl2];exact hg2'
    have gT:(PS (H2++[some [encU d]]) b (srcV bw ow sp l cap) (i+n)).get H2.length=some [encU d]:=by rw[PS_other (by have:=hs2.lt;omega),get_app0]
    refine xHNb ?_
    refine wpH_appIn gB (by rw[uL_len];exact hpl) hkn (by omega) gT rfl ?_
    rw[PS_comm (by omega)]
    (try simp only[ctlB])
    repeat' ((first|refine xSNb ?_|refine xONb rfl ?_);(try simp only[ctlB]))
    refine⟨px++[d],i+k+1,List.set (H2++[some [encU d]]) H.length (some (uL px++encU d::List.replicate r (Value.int .u8 0))),hst.resolve_left id _ (hsR.resolve_left id),extSet (hx2.trans (Ext.app _ _)) (Nat.le_refl _),by simp;omega,?_,rfl,exZNf (by first|rfl|(simp only[Int.natCast_add,Int.natCast_one];rfl)|simp only[Int.natCast_add,Int.natCast_one])⟩
    rw[get_set_self (by simp;omega),hr3.resolve_left id,uL_app]
    simp[uL]
   ·rintro r1 H3 ⟨rfl,hb,rfl⟩
    have hcg:¬ c.toNat≤g:=by simp at hb;omega
    rw[if_neg hcg]at hsR
    (repeat (first|rw[blockQ_p (by decide)]|simp only[seqQ_e,loopQ_e,midX_e]));refine bodyE_p ?_
    exact⟨H2,3,_,hall.resolve_left id 3 hsR,hx2,rfl,rfl⟩
  ·rintro S H' ⟨px,p,H2,hk,hx2,hl2,hg2',rfl,z,rfl⟩
   obtain⟨hpl,hp⟩:=raws_in hk
   simp only[]at hpl hp
   rw[Nat.sub_self,List.replicate_zero,List.append_nil]at hg2'
   (try simp only[ctlB])
   repeat' ((first|refine xSNb ?_|refine xONb rfl ?_);(try simp only[ctlB]))
   refine bodyE_r ?_
   unfold cf42
   refine body_ret (xENb) ?_
   exact⟨H2,px,p,hk,hx2,by rw[hp],Sl.whole (by rw[PS_other (by omega)];exact hg2') hpl⟩
 ·rintro r1 H2 ⟨hnl,rfl,rfl⟩
  (repeat (first|rw[blockQ_p (by decide)]|simp only[seqQ_e,loopQ_e,midX_e]));refine bodyE_p ?_
  exact⟨Hz,10,i,by unfold rawVS;rw[if_neg hnl],hxz,rfl,rfl⟩
end
end Go.Proofs.YtpbiaeiebhgmgaaDoor
namespace Go.Proofs.YtpbiaeiebhgmgaaDoor
open Go.Abs
set_option linter.unusedSimpArgs false
set_option linter.unusedVariables false
set_option maxRecDepth 20000
def bitQ(c:UInt8)(t:Nat):Bool:=decide (c.toNat/2^(7-t)%2=1)
theorem bit_and:∀t,t<8→∀c,c<256→((BitVec.ofInt 8 (c:Nat) &&& BitVec.ofInt 8 (128/2^t:Nat)).toNat=0↔¬ c/2^(7-t)%2=1):=by decide +kernel
def pixQ(l:List UInt8)(p st y x:Nat):UInt8:=if bitQ (l.getD (p+(y*st+x/8)) 0) (x%8) then 0 else 255
def rowQ(l:List UInt8)(p st y:Nat):Nat→List UInt8
 | 0=>[]
 | x+1=>rowQ l p st y x++[pixQ l p st y x]
def rowsQ(l:List UInt8)(p st w:Nat):Nat→List UInt8
 | 0=>[]
 | y+1=>rowsQ l p st w y++rowQ l p st y w
theorem rowQ_len(l:List UInt8)(p st y:Nat):∀x,(rowQ l p st y x).length=x
 | 0=>rfl
 | x+1=>by rw[rowQ,List.length_append,rowQ_len l p st y x];rfl
theorem rowsQ_len(l:List UInt8)(p st w:Nat):∀y,(rowsQ l p st w y).length=y*w
 | 0=>by simp[rowsQ]
 | y+1=>by rw[rowsQ,List.length_append,rowsQ_len l p st w y,rowQ_len,Nat.succ_mul]
def rawBS(l:List UInt8)(p w h:Nat):Int ⊕ (List UInt8×Nat):=if (w+7)/8*h≤l.length-p then .inr (rowsQ l p ((w+7)/8) w h,p+(w+7)/8*h) else .inl 10
section
variable {lo:Nat}{H:Heap}{b:Nat}{l:List UInt8}{bw ow:Nat}{sp:Option Nat}{cap:Nat}{xs:List Value}
theorem rawbP{i w ht:Nat}(hs:Src H b l bw ow sp cap xs)(hlo:lo≤b)(hi:i≤l.length)(hw1:1≤w)(hw2:w≤4096)(hh1:1≤ht)(hh2:ht≤4096):EvE cp lo 44 [ptr b,.int .i64 (w:Nat),.int .i64 (ht:Nat)] (PS H b (srcV bw ow sp l cap) i)
  (pixR H b (srcV bw ow sp l cap) (rawBS l i w ht)) (pixK H b (srcV bw ow sp l cap) (rawBS l i w ht)):=by
 have hlen:=hs.len
 have hbl:=hs.lt
 have hln:(PS H b (srcV bw ow sp l cap) i).length=H.length:=PS_len i
 have e1:((w:Int)+7).tdiv 8=(((w+7)/8:Nat):Int):=by rw[Int.tdiv_eq_ediv_of_nonneg (by omega)];omega
 unfold rawBS
 obtain⟨st,hst⟩:∃st,(w+7)/8=st:=⟨_,rfl⟩
 have hst1:8*st≤w+7∧w+7<8*st+8:=by omega
 rw[hst]at e1 ⊢
 clear hst
 have hsh:st*ht≤4194304:=Nat.le_trans (Nat.mul_le_mul (show st≤512 by omega) hh2) (by decide)
 have hwh:w*ht≤16777216:=Nat.le_trans (Nat.mul_le_mul hw2 hh2) (by decide)
 have hwh0:0<w*ht:=Nat.mul_pos (by omega) (by omega)
 have hm1:(st:Int)*(ht:Int)=((st*ht:Nat):Int):=by simp
 have hm2:(w:Int)*(ht:Int)=((w*ht:Nat):Int):=by simp
 have hwht:w*ht=ht*w:=Nat.mul_comm _ _
 have hsht:st*ht=ht*st:=Nat.mul_comm _ _
 generalize hN:st*ht=N at hsh hm1 hsht ⊢
 generalize hM:w*ht=M at hwh hwh0 hm2 hwht
 replace hwht:False∨_:=.inr hwht
 replace hsht:False∨_:=.inr hsht
 clear hN hM
 refine se44 ?_
 unfold bd44
 simp only[kB,ctlB]
 repeat' ((first|refine xSNb ?_|refine xONb rfl ?_);(try simp only[ctlB]))
 refine aw_callE (xENb) (by simp(disch:=first|omega|(simp only[lenB];omega))only[evB,xBNb,Nat.reduceAdd,Nat.reduceBEq, *]) (xENb) (takeP (n:=N) hs hlo hi (by omega)) ?_ ?_
 ·rintro r1 H2 ⟨hnl,rfl,o',cap',rfl,hato⟩
  rw[if_pos hnl]
  replace hato:False∨_:=.inr hato
  (try simp only[ctlB])
  repeat' ((first|refine xSNb ?_|refine xONb rfl ?_);(try simp only[ctlB]))
  rw[PS_push hbl,zeros_u8,PS_len]
  refine aw_for (fun y S H'=>∃H2 K,K≤y*w∧y*w≤K∧Ext H H2∧H.length<H2.length∧H2.get H.length=some (uL (rowsQ l i st w y)++List.replicate (M-K) (Value.int .u8 0))∧H'=PS H2 b (srcV bw ow sp l cap) (i+N)∧∃(z:Nat→Value),S=[ptr b,.int .i64 (w:Nat),.int .i64 (ht:Nat),z 3,.int .i64 (st:Nat),.slice (some ⟨bw,o',sp⟩) N cap',.slice (some ⟨H.length,0,none⟩) K M,z 7,z 8,z 9,z 10,z 11,.int .i64 (ht:Nat),.int .i64 (y:Nat),z 14,z 15,z 16,z 17,z 18]) ht ?_ ?_ ?_ ?_
  ·exact⟨_,0,by omega,by omega,Ext.app _ _,by simp,get_app0,rfl,exZNf rfl⟩
  ·rintro y S H' hk ⟨H2,K,_,_,_,_,_,_,z,rfl⟩
   exact⟨_,xENb,by simp⟩
  ·rintro y S H' hy ⟨H2,K,hK1,hK2,hx2,hl2,hg2,rfl,z,rfl⟩
   have hyw:y*w+w≤M:=by
    have:=Nat.mul_le_mul_right w (show y+1≤ht from hy)
    rw[Nat.succ_mul]at this
    rw[hwht.resolve_left id];exact this
   have hys:y*st+st≤N:=by
    have:=Nat.mul_le_mul_right st (show y+1≤ht from hy)
    rw[Nat.succ_mul]at this
    rw[hsht.resolve_left id];exact this
   have hp1:(y:Int)*(st:Int)=((y*st:Nat):Int):=by simp
   have hrl:=rowsQ_len l i st w y
   have hys1:(y+1)*w=y*w+w:=Nat.succ_mul _ _
   replace hys1:False∨_:=.inr hys1
   have hpix:∀x,pixQ l i st y x=if bitQ (l.getD (i+(y*st+x/8)) 0) (x%8) then 0 else 255:=fun _=>rfl
   generalize hY:y*st=Y at hp1 hys hpix
   clear hY
   replace hpix:False∨_:=.inr hpix
   replace hrl:(rowsQ l i st w y).length≤K∧K≤(rowsQ l i st w y).length:=by omega
   (try simp only[ctlB])
   repeat' ((first|refine xSNb ?_|refine xONb rfl ?_);(try simp only[ctlB]))
   refine aw_for (fun x S H'=>∃H2,Ext H H2∧H.length<H2.length∧H2.get H.length=some (uL (rowsQ l i st w y++rowQ l i st y x)++List.replicate (M-(K+x)) (Value.int .u8 0))∧H'=PS H2 b (srcV bw ow sp l cap) (i+N)∧∃(z:Nat→Value),S=[ptr b,.int .i64 (w:Nat),.int .i64 (ht:Nat),z 3,.int .i64 (st:Nat),.slice (some ⟨bw,o',sp⟩) N cap',.slice (some ⟨H.length,0,none⟩) (K+x) M,.int .i64 (y:Nat),z 8,z 9,z 10,z 11,.int .i64 (ht:Nat),.int .i64 (y:Nat),.int .i64 (w:Nat),.int .i64 (x:Nat),z 16,z 17,z 18]) w ?_ ?_ ?_ ?_
   ·exact⟨H2,hx2,hl2,by rw[rowQ,List.append_nil];exact hg2,rfl,exZNf rfl⟩
   ·rintro x S H' hk ⟨H2,_,_,_,_,z,rfl⟩
    exact⟨_,xENb,by simp⟩
   ·clear hg2 hl2 hx2
    rintro x S H' hx ⟨H2,hx2,hl2,hg2,rfl,z,rfl⟩
    have hql:=rowQ_len l i st y x
    obtain⟨r,hr1,hr2⟩:∃r,M-(K+x)≤r+1∧r+1≤M-(K+x):=⟨M-(K+x)-1,by omega,by omega⟩
    have hnk:M-(K+x)=r+1:=by omega
    have hr3:M-(K+(x+1))=r:=by omega
    rw[hnk,List.replicate_succ]at hg2
    clear hnk
    replace hr3:False∨_:=.inr hr3
    replace hql:(rowQ l i st y x).length≤x∧x≤(rowQ l i st y x).length:=by omega
    have hs2:=hs.ext hx2
    have hat:=hato.resolve_left id (Y+x/8) (by omega)
    have hpx:=hpix.resolve_left id x
    have hsQ:rowQ l i st y (x+1)=rowQ l i st y x++[pixQ l i st y x]:=rfl
    rw[hpx]at hsQ
    clear hpx
    generalize l.getD (i+(Y+x/8)) 0=c at hat hsQ
    have hcl:=c.toNat_lt
    have hx8:(x:Int).tdiv 8=((x/8:Nat):Int):=by rw[Int.tdiv_eq_ediv_of_nonneg (by omega)];rfl
    have hm8:(x:Int).tmod 8=((x%8:Nat):Int):=by rw[Int.tmod_eq_emod_of_nonneg (by omega)];rfl
    have hsum:((Y:Nat):Int)+((x/8:Nat):Int)=((Y+x/8:Nat):Int):=by omega
    obtain⟨t,ht8,htx1⟩:∃t,t<8∧x%8=t:=⟨x%8,by omega,rfl⟩
    have hsh8:=shr8 t ht8
    rw[htx1]at hm8 hsQ
    clear htx1
    have g2:=(PS_other (v:=srcV bw ow sp l cap) hs2.ne (i+N)).trans hs2.get
    have hba:=bit_and t ht8 c.toNat hcl
    replace hsQ:False∨_:=.inr hsQ
    replace hba:False∨_:=.inr hba
    have hwr:IntKind.u8.wrap ((BitVec.ofInt IntKind.u8.bits (c.toNat:Int) &&& BitVec.ofInt IntKind.u8.bits ((128/2^t:Nat):Int)).toNat:Int)=0↔¬ bitQ c t=true:=by
     have hlt:=(BitVec.ofInt IntKind.u8.bits (c.toNat:Int) &&& BitVec.ofInt IntKind.u8.bits ((128/2^t:Nat):Int)).isLt
     have h8:2^IntKind.u8.bits=256:=by decide
     rw[h8]at hlt
     rw[wrap_u8 (by omega) (by omega)]
     unfold bitQ
     rw[decide_eq_true_iff,←hba.resolve_left id]
     show _↔(BitVec.ofInt IntKind.u8.bits (c.toNat:Int) &&& BitVec.ofInt IntKind.u8.bits ((128/2^t:Nat):Int)).toNat=0
     omega
    replace hwr:False∨_:=.inr hwr
    obtain⟨d,hd⟩:∃d:UInt8,(if bitQ c t=true then 0 else 255)=d:=⟨_,rfl⟩
    rw[hd]at hsQ
    replace hd:False∨_:=.inr hd
    (try simp only[ctlB])
    repeat' ((first|refine xSNb ?_|refine xONb rfl ?_);(try simp only[ctlB]))
    refine aw_midX (fun S' H'=>PS H2 b (srcV bw ow sp l cap) (i+N)=H'∧∃(z:Nat→Value),S'=[ptr b,.int .i64 (w:Nat),.int .i64 (ht:Nat),z 3,.int .i64 (st:Nat),.slice (some ⟨bw,o',sp⟩) N cap',.slice (some ⟨H.length,0,none⟩) (K+x) M,.int .i64 (y:Nat),z 8,encU d,z 10,z 11,.int .i64 (ht:Nat),.int .i64 (y:Nat),.int .i64 (w:Nat),.int .i64 (x:Nat),z 16,z 17,z 18]) ?_ ?_
    ·refine xCNb (fun h=>?_) (fun h=>?_)
     ·have h':=of_decide_eq_true h
      have hq:bitQ c t=true:=by
       cases e:bitQ c t with
       | true=>rfl
       | false=>exact absurd (hwr.resolve_left id |>.2 (by rw[e];simp)) h'
      have hd0:d=0:=by rw[←hd.resolve_left id,if_pos hq]
      subst hd0
      clear h h' hq
      (try simp only[ctlB])
      repeat' ((first|refine xSNb ?_|refine xONb rfl ?_);(try simp only[ctlB]))
      exact⟨by trivial,exZNf rfl⟩
     ·have h':=of_decide_eq_false h
      have hq:¬ bitQ c t=true:=(hwr.resolve_left id).1 (by simpa using h')
      have hd0:d=255:=by rw[←hd.resolve_left id,if_neg hq]
      subst hd0
      clear h h' hq
      (try simp only[ctlB])
      exact⟨by trivial,exZNf rfl⟩
    ·rintro S' H' ⟨rfl,z,rfl⟩
     (try simp only[ctlB])
     repeat' ((first|refine xSNb ?_|refine xONb rfl ?_);(try simp only[ctlB]))
     rw[PS_push hs2.lt,PS_len]
     have gB:(PS (H2++[some [encU d]]) b (srcV bw ow sp l cap) (i+N)).get H.length=some (uL (rowsQ l i st w y++rowQ l i st y x)++Value.int .u8 0::List.replicate r (Value.int .u8 0)):=by rw[PS_other (by omega),get_app_lt hl2];exact hg2
     have gT:(PS (H2++[some [encU d]]) b (srcV bw ow sp l cap) (i+N)).get H2.length=some [encU d]:=by rw[PS_other (by have:=hs2.lt;omega),get_app0]
     refine xHNb ?_
     refine wpH_appIn gB (by rw[uL_len,List.length_append];omega) (by omega) (by omega) gT rfl ?_
     rw[PS_comm (by omega)]
     (try simp only[ctlB])
     repeat' ((first|refine xSNb ?_|refine xONb rfl ?_);(try simp only[ctlB]))
     refine⟨List.set (H2++[some [encU d]]) H.length (some (uL (rowsQ l i st w y++rowQ l i st y x)++encU d::List.replicate r (Value.int .u8 0))),extSet (hx2.trans (Ext.app _ _)) (Nat.le_refl _),by simp;omega,?_,rfl,exZNf (by first|rfl|(simp only[Int.natCast_add,Int.natCast_one];rfl)|simp only[Int.natCast_add,Int.natCast_one])⟩
     rw[get_set_self (by simp;omega),hr3.resolve_left id,hsQ.resolve_left id]
     simp[uL]
   ·rintro S H' ⟨H2,hx2,hl2,hg2,rfl,z,rfl⟩
    (try simp only[ctlB])
    repeat' ((first|refine xSNb ?_|refine xONb rfl ?_);(try simp only[ctlB]))
    refine⟨H2,K+w,by rw[hys1.resolve_left id];omega,by rw[hys1.resolve_left id];omega,hx2,hl2,hg2,rfl,exZNf (by first|rfl|(simp only[Int.natCast_add,Int.natCast_one];rfl)|simp only[Int.natCast_add,Int.natCast_one])⟩
  ·rintro S H' ⟨H2,K,hK1,hK2,hx2,hl2,hg2,rfl,z,rfl⟩
   have hrl:=rowsQ_len l i st w ht
   have hKM:K=M:=by rw[hwht.resolve_left id];omega
   rw[hKM,Nat.sub_self,List.replicate_zero,List.append_nil]at hg2
   have hpl:(rowsQ l i st w ht).length=M:=by rw[hwht.resolve_left id];exact hrl
   subst hKM
   clear hrl
   (try simp only[ctlB])
   repeat' ((first|refine xSNb ?_|refine xONb rfl ?_);(try simp only[ctlB]))
   refine bodyE_r ?_
   unfold cf44
   refine body_ret (xENb) ?_
   exact⟨H2,_,_,rfl,hx2,rfl,Sl.whole (by rw[PS_other (by omega)];exact hg2) hpl⟩
 ·rintro r1 H2 ⟨hnl,rfl,rfl⟩
  (repeat (first|rw[blockQ_p (by decide)]|simp only[seqQ_e,loopQ_e,midX_e]));refine bodyE_p ?_
  exact⟨H,10,i,by rw[if_neg hnl],Ext.refl _,rfl,rfl⟩
end
end Go.Proofs.YtpbiaeiebhgmgaaDoor
namespace Go.Proofs.YtpbiaeiebhgmgaaDoor
open Go.Abs
set_option linter.unusedSimpArgs false
set_option linter.unusedVariables false
set_option maxRecDepth 20000
def rawS(l:List UInt8)(i f w h g:Nat):Int ⊕ (List UInt8×Nat):=if wsB (l.getD i 0)=false then .inl 9 else if f=4 then rawBS l (i+1) w h else rawVS l (i+1) (w*h) g
section
variable {lo:Nat}{H:Heap}{l:List UInt8}{bw ow:Nat}{sp:Option Nat}{cap:Nat}{xs:List Value}
end
end Go.Proofs.YtpbiaeiebhgmgaaDoor
