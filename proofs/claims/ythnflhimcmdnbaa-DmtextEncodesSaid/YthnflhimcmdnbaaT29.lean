/- Dmtext: what is written is read back: the pieces. Dmtext: EDIFACT is read back. Dmtext: what is written is read back. Dmtext: the codewords' bounds; pad codewords. Dmtext: the law Returns. -/
import Derived.Test.YthnflhimcmdnbaaT20
import Derived.Test.YthnflhimcmdnbaaT21
import Derived.Test.YthnflhimcmdnbaaT27
set_option linter.unusedVariables false
set_option linter.unusedSimpArgs false
set_option linter.unusedSectionVars false
namespace Go.Proofs.Ythnflhimcmdnbaa
open Go.Abs
set_option linter.unusedSimpArgs false
set_option linter.unusedVariables false
set_option maxRecDepth 100000
def AtW(ws W E:List Nat):Prop:=∃r,ws=W++E++r
theorem AtW.wd{ws W E:List Nat}(h:AtW ws W E){i:Nat}(hi:i<E.length):wd ws (W.length+i)=E.getD i 0:=by
 obtain⟨r,rfl⟩:=h
 unfold Go.Proofs.Ythnflhimcmdnbaa.wd
 rw[List.append_assoc,List.getD_eq_getElem?_getD,List.getElem?_append_right (by omega),Nat.add_sub_cancel_left,List.getElem?_append_left hi,←List.getD_eq_getElem?_getD]
theorem AtW.len{ws W E:List Nat}(h:AtW ws W E):W.length+E.length≤ws.length:=by
 obtain⟨r,rfl⟩:=h;simp
theorem take_by{p:List UInt8}{a:Nat}(h:a<p.length):p.take (a+1)=p.take a++[UInt8.ofNat (by' p a)]:=by
 rw[List.take_succ_eq_append_getElem h]
 congr 2
 unfold by'
 simp[List.getD_eq_getElem?_getD,h]
theorem cpT:(List.range 128).all (fun n=>[false,true].all fun b=>(chrS b (placeS b n).1 (placeS b n).2==n)&&((placeS b n).1 != 0 || decide (3≤(placeS b n).2))&&((placeS b n).1 != 2 || (placeS b n).2 != 30))=true:=by kernel_rfl
theorem chr_place{b:Bool}{n:Nat}(h:n<128):chrS b (placeS b n).1 (placeS b n).2=n∧((placeS b n).1=0→3≤(placeS b n).2)∧((placeS b n).1=2→(placeS b n).2≠30):=by
 have:=List.all_eq_true.1 (List.all_eq_true.1 cpT n (List.mem_range.2 h)) b (by cases b<;>simp)
 simp only[Bool.and_eq_true,Bool.or_eq_true,beq_iff_eq,bne_iff_ne,decide_eq_true_eq]at this
 refine⟨this.1.1,fun e=>?_,fun e=>?_⟩
 ·rcases this.1.2 with h|h
  ·exact absurd e h
  ·exact h
 ·rcases this.2 with h|h
  ·exact absurd e h
  ·exact h
theorem mov_val{lower:Bool}{p:List UInt8}{a s:Nat}{up:Bool}{m:Mv}(h:m ∈ movS p a s up lower):valS lower (s,up,p.take a) m.v=.inr (m.s,m.u,p.take m.a):=by
 unfold movS at h
 rw[List.mem_append,List.mem_append]at h
 unfold valS
 simp only
 rcases h with (h|h)|h
 ·unfold mvA at h
  split at h
  ·rename_i hs
   unfold mv3 at h
   obtain⟨i,hi,rfl⟩:=List.mem_map.1 h
   have:=List.mem_range.1 hi
   rw[if_pos ⟨hs,by simp only;omega⟩]
  ·cases h
 ·unfold mvB at h
  split at h
  ·rename_i hc
   obtain⟨h1,h2,h3⟩:=hc
   obtain rfl:=List.mem_singleton.1 h
   have hb:=by_lt p a
   obtain⟨c1,c2,c3⟩:=chr_place (b:=lower) (n:=by' p a%128) (by omega)
   rw[h2]at c1 c2 c3
   simp only
   rw[if_neg (by rintro⟨e1,e2⟩;have:=c2 e1;omega),if_neg (by rintro⟨e1,e2,_⟩;exact c3 e1 e2),c1,if_neg (by omega),take_by h1]
   subst h3
   congr 6
   by_cases h128:128≤by' p a
   ·rw[decide_eq_true h128]
    simp only[if_true]
    omega
   ·rw[decide_eq_false h128]
    simp only[Bool.false_eq_true,if_false]
    omega
  ·cases h
 ·unfold mvD at h
  split at h
  ·rename_i hc
   obtain rfl:=List.mem_singleton.1 h
   obtain⟨rfl,rfl⟩:=hc
   rfl
  ·cases h
theorem xpT:(List.range 256).all (fun n=>x12S n==0 || xchr (x12S n-1)==n)=true:=by kernel_rfl
theorem xchr_x12{n:Nat}(h:n<256)(h0:x12S n≠0):xchr (x12S n-1)=n:=by
 have:=List.all_eq_true.1 xpT n (List.mem_range.2 h)
 simpa[h0]using this
theorem tri_read{ws W:List Nat}{u v w a md:Nat}(hu:u≤39)(hv:v≤39)(hw:w≤39)(h:AtW ws W (hd (triO u v w a md))):triS ws W.length=.inr (some (u,v,w)):=by
 have e:hd (triO u v w a md)=[(1600*u+40*v+w+1)/256,(1600*u+40*v+w+1)%256]:=rfl
 rw[e]at h
 have hl:=h.len
 have h0:=h.wd (i:=0) (by simp)
 have h1:=h.wd (i:=1) (by simp)
 simp only[List.length_cons,List.length_nil]at hl
 rw[Nat.add_zero]at h0
 replace h0:wd ws W.length=(1600*u+40*v+w+1)/256:=h0
 replace h1:wd ws (W.length+1)=(1600*u+40*v+w+1)%256:=h1
 unfold triS
 rw[h0,h1,if_neg (by omega),if_neg (by omega),if_neg (by omega),if_neg (by omega)]
 have q1:(256*((1600*u+40*v+w+1)/256)+(1600*u+40*v+w+1)%256-1)/1600=u:=by omega
 have q2:(256*((1600*u+40*v+w+1)/256)+(1600*u+40*v+w+1)%256-1)/40%40=v:=by omega
 have q3:(256*((1600*u+40*v+w+1)/256)+(1600*u+40*v+w+1)%256-1)%40=w:=by omega
 rw[q1,q2,q3]
theorem lat_read{ws W:List Nat}{a:Nat}(h:AtW ws W (hd (latO a))):triS ws W.length=.inr none:=by
 have hl:=h.len
 have h0:=h.wd (i:=0) (by simp[hd,latO])
 rw[Nat.add_zero]at h0
 replace h0:wd ws W.length=254:=h0
 have hl2:(hd (latO a)).length=1:=rfl
 unfold triS
 rw[h0,if_neg (by omega),if_pos rfl]
theorem unm_mk{ws:List Nat}{i x:Nat}(hx:x<256)(h:wd ws i=(x+msk i)%256):unm ws i=x:=by
 unfold unm
 rw[h]
 have:msk i≤255:=by unfold msk;omega
 omega
theorem mk_get:∀(k:Nat) (l:List Nat) (i:Nat),i<l.length→(mk k l).getD i 0=(l.getD i 0+msk (k+i))%256
 | k,x::l,0,h=>by simp[mk]
 | k,x::l,i+1,h=>by
  simp only[mk,List.getD_cons_succ]
  rw[mk_get (k+1) l i (by simpa using h),show k+1+i=k+(i+1) by omega]
theorem runB_get{p:List UInt8}{a n i:Nat}(hi:i<n)(h:a+n≤p.length):(runB p a n).getD i 0=by' p (a+i):=by
 unfold runB by'
 have:i<p.length-a:=by omega
 simp[List.getD_eq_getElem?_getD,List.getElem?_map,List.getElem?_take,hi,List.getElem?_drop,show a+i<p.length by omega]
theorem run_read{ws:List Nat}{p:List UInt8}:∀(m i b:Nat),i+m≤ws.length→b+m≤p.length→(∀t,t<m→unm ws (i+t)=by' p (b+t))→runS ws m i (p.take b)=.inr (i+m,p.take (b+m))
 | 0,i,b,h1,h2,h3=>rfl
 | m+1,i,b,h1,h2,h3=>by
  have h0:=h3 0 (by omega)
  rw[Nat.add_zero,Nat.add_zero]at h0
  rw[runS,if_neg (by omega),h0,←take_by (by omega),run_read m (i+1) (b+1) (by omega) (by omega) (fun t ht=>by rw[show i+1+t=i+(t+1) by omega,show b+1+t=b+(t+1) by omega];exact h3 (t+1) (by omega))]
  rw[show i+1+m=i+(m+1) by omega,show b+1+m=b+(m+1) by omega]
theorem bin_read{ws W:List Nat}{p:List UInt8}{a n:Nat}(h1:1≤n)(h2:n≤1749)(h3:a+n≤p.length)(h:AtW ws W (emit p W.length a (binO a n))):wd ws W.length=231∧W.length<ws.length∧binD ws (W.length+1) (p.take a)=.inr (W.length+(binO a n).sz+n,p.take (a+n)):=by
 have hr:(binO a n).run=n:=by unfold binO;split<;>rfl
 have h00:(binO a n).h0=231:=by unfold binO;split<;>rfl
 have hem:emit p W.length a (binO a n)=231::mk (W.length+1) ((hd (binO a n)).drop 1++runB p a n):=by
  unfold emit;rw[hr,if_neg (by omega),h00]
 rw[hem]at h
 have hlen:=h.len
 have g0:=h.wd (i:=0) (by simp)
 rw[Nat.add_zero]at g0
 have hget:∀i,i<((hd (binO a n)).drop 1++runB p a n).length→((hd (binO a n)).drop 1++runB p a n).getD i 0<256→unm ws (W.length+1+i)=((hd (binO a n)).drop 1++runB p a n).getD i 0:=by
  intro i hi hlt
  have:=h.wd (i:=i+1) (by rw[List.length_cons,mk_len];omega)
  rw[List.getD_cons_succ,mk_get _ _ _ hi,show W.length+(i+1)=W.length+1+i by omega]at this
  exact unm_mk hlt this
 rw[List.length_cons,mk_len,List.length_append,runB_len h3]at hlen
 refine⟨g0,by omega,?_⟩
 by_cases h250:n<250
 ·have e:binO a n=⟨231,n,0,2,n,a+n,0⟩:=by unfold binO;rw[if_pos h250]
  have ed:(hd (binO a n)).drop 1=[n]:=by rw[e];rfl
  rw[ed]at hget hlen
  simp only[List.length_cons,List.length_nil]at hlen
  have u0:=hget 0 (by simp) (by show n<256;omega)
  rw[Nat.add_zero]at u0
  replace u0:unm ws (W.length+1)=n:=u0
  rw[e]
  unfold binD
  rw[if_neg (by omega),u0,if_neg (by omega),if_pos h250,run_read n _ a (by omega) h3 ?_]
  ·congr 2
  ·intro t ht
   have hb:=by_lt p (a+t)
   have hq:([n]++runB p a n).getD (t+1) 0=by' p (a+t):=by
    rw[List.cons_append,List.nil_append,List.getD_cons_succ];exact runB_get ht h3
   have:=hget (t+1) (by simp[runB_len h3];omega) (by rw[hq];exact hb)
   rw[hq]at this
   rw[show W.length+1+1+t=W.length+1+(t+1) by omega]
   exact this
 ·have e:binO a n=⟨231,249+n/250,n%250,3,n,a+n,0⟩:=by unfold binO;rw[if_neg h250]
  have ed:(hd (binO a n)).drop 1=[249+n/250,n%250]:=by rw[e];rfl
  rw[ed]at hget hlen
  simp only[List.length_cons,List.length_nil]at hlen
  have u0:=hget 0 (by simp) (by show 249+n/250<256;omega)
  have u1:=hget 1 (by simp) (by show n%250<256;omega)
  rw[Nat.add_zero]at u0
  replace u0:unm ws (W.length+1)=249+n/250:=u0
  replace u1:unm ws (W.length+1+1)=n%250:=u1
  rw[e]
  unfold binD
  rw[if_neg (by omega),u0,if_neg (by omega),if_neg (by omega),if_neg (by omega),u1,if_neg (by omega),show 250*(249+n/250-249)+n%250=n by omega,run_read n _ a (by omega) h3 ?_]
  ·congr 2
  ·intro t ht
   have hb:=by_lt p (a+t)
   have hq:([249+n/250,n%250]++runB p a n).getD (t+2) 0=by' p (a+t):=by
    rw[List.cons_append,List.cons_append,List.nil_append,List.getD_cons_succ,List.getD_cons_succ];exact runB_get ht h3
   have:=hget (t+2) (by simp[runB_len h3];omega) (by rw[hq];exact hb)
   rw[hq]at this
   rw[show W.length+1+2+t=W.length+1+(t+2) by omega]
   exact this
end Go.Proofs.Ythnflhimcmdnbaa
namespace Go.Proofs.Ythnflhimcmdnbaa
open Go.Abs
set_option linter.unusedSimpArgs false
set_option linter.unusedVariables false
set_option maxRecDepth 20000
def gA(p:List UInt8)(a:Nat):Nat→Nat
 | 0=>0
 | i+1=>64*gA p a i+by' p (a+i)%64
def okC(p:List UInt8)(a j:Nat):Prop:=a+j<p.length∧32≤by' p (a+j)∧by' p (a+j)≤94
theorem edi_mem{p:List UInt8}{a:Nat}:∀(k n:Nat) {o:Opt},n+k=4→o ∈ ediR p a k n (gA p a n)→(∃i,n≤i∧i<4∧(∀j,n≤j→j<i→okC p a j)∧o=bitO (64*gA p a i+31) (i+1) (a+i) 0)∨((∀j,n≤j→j<4→okC p a j)∧o=bitO (gA p a 4) 4 (a+4) 18)
 | 0,n,o,h,ho=>by
  have:n=4:=by omega
  subst this
  simp only[ediR]at ho
  exact .inr ⟨fun j h1 h2=>by omega,List.mem_singleton.1 ho⟩
 | k+1,n,o,h,ho=>by
  simp only[ediR]at ho
  rcases List.mem_cons.1 ho with rfl|ho
  ·exact .inl ⟨n,Nat.le_refl _,by omega,fun j h1 h2=>by omega,rfl⟩
  ·split at ho
   ·rename_i hc
    rcases edi_mem k (n+1) (by omega) ho with ⟨i,h1,h2,h3,h4⟩|⟨h3,h4⟩
    ·refine .inl ⟨i,by omega,h2,fun j hj1 hj2=>?_,h4⟩
     by_cases e:j=n
     ·subst e;exact hc
     ·exact h3 j (by omega) hj2
    ·refine .inr ⟨fun j hj1 hj2=>?_,h4⟩
     by_cases e:j=n
     ·subst e;exact hc
     ·exact h3 j (by omega) hj2
   ·cases ho
section
variable {ws:List Nat}{a0 j:Nat}
theorem six0:sixS ws a0 (24*j)=wd ws (a0+3*j)/4%64:=by
 unfold sixS
 have e1:24*j/8=3*j:=by omega
 have e2:(24*j+5)/8=3*j:=by omega
 have e3:24*j%8=0:=by omega
 rw[e1,e2,e3,if_neg (by omega)]
 have:(2:Nat)^(10-0)=1024:=by decide
 rw[this]
 omega
theorem six1:sixS ws a0 (24*j+6)=(256*wd ws (a0+3*j)+wd ws (a0+3*j+1))/16%64:=by
 unfold sixS
 have e1:(24*j+6)/8=3*j:=by omega
 have e2:(24*j+6+5)/8=3*j+1:=by omega
 have e3:(24*j+6)%8=6:=by omega
 rw[e1,e2,e3,if_pos (by omega)]
 have:(2:Nat)^(10-6)=16:=by decide
 rw[this,Nat.add_assoc a0]
theorem six2:sixS ws a0 (24*j+12)=(256*wd ws (a0+3*j+1)+wd ws (a0+3*j+2))/64%64:=by
 unfold sixS
 have e1:(24*j+12)/8=3*j+1:=by omega
 have e2:(24*j+12+5)/8=3*j+2:=by omega
 have e3:(24*j+12)%8=4:=by omega
 rw[e1,e2,e3,if_pos (by omega)]
 have:(2:Nat)^(10-4)=64:=by decide
 rw[this,Nat.add_assoc a0,Nat.add_assoc a0]
theorem six3:sixS ws a0 (24*j+18)=wd ws (a0+3*j+2)%64:=by
 unfold sixS
 have e1:(24*j+18)/8=3*j+2:=by omega
 have e2:(24*j+18+5)/8=3*j+2:=by omega
 have e3:(24*j+18)%8=2:=by omega
 rw[e1,e2,e3,if_neg (by omega)]
 have:(2:Nat)^(10-2)=256:=by decide
 rw[this,Nat.add_assoc a0]
 omega
theorem edi_chr{f bit b:Nat}{o:List UInt8}(h1:a0+(bit+5)/8<ws.length)(h2:sixS ws a0 bit=b%64)(hb:32≤b∧b≤94):ediD ws a0 (f+1) bit o=ediD ws a0 f (bit+6) (o++[UInt8.ofNat b]):=by
 rw[ediD,if_neg (by omega),h2,if_neg (by omega)]
 congr 3
 congr 1
 split<;>omega
theorem edi_stop{f bit:Nat}{o:List UInt8}(h1:a0+(bit+5)/8<ws.length)(h2:sixS ws a0 bit=31)(h3:wd ws (a0+(bit+5)/8)%2^((8-(bit+6)%8)%8)=0):ediD ws a0 (f+1) bit o=.inr (a0+(bit+5)/8+1,o):=by
 rw[ediD,if_neg (by omega),if_pos h2,if_neg (by rw[h3];simp)]
end
theorem ar4{x0 x1 x2 x3 V:Nat}(h0:x0<64)(h1:x1<64)(h2:x2<64)(h3:x3<64)(hV:V=64*(64*(64*x0+x1)+x2)+x3):V*1/65536/4%64=x0∧(256*(V*1/65536)+V*1/256%256)/16%64=x1∧(256*(V*1/256%256)+V*1%256)/64%64=x2∧V*1%256%64=x3:=by
 refine⟨?_,?_,?_,?_⟩<;>omega
theorem take1{p:List UInt8}{a j:Nat}(h:okC p a j):p.take (a+j)++[UInt8.ofNat (by' p (a+j))]=p.take (a+j+1):=(take_by h.1).symm
theorem edi_end_read{ws W:List Nat}{p:List UInt8}{a a0 j g i:Nat}(hk:a0+3*j=W.length)(hi:i<4)(hc:∀t,t<i→okC p a t)(h:AtW ws W (hd (bitO (64*gA p a i+31) (i+1) (a+i) 0)))(hg:i+1≤g):ediD ws a0 g (24*j) (p.take a)=.inr (W.length+(6*(i+1)+7)/8,p.take (a+i)):=by
 have hl:=h.len
 have p18:(2:Nat)^(6*(4-1))=262144:=by decide
 have p12:(2:Nat)^(6*(4-2))=4096:=by decide
 have p6:(2:Nat)^(6*(4-3))=64:=by decide
 have p0:(2:Nat)^(6*(4-4))=1:=by decide
 have hcase:i=0∨i=1∨i=2∨i=3:=by omega
 rcases hcase with rfl|rfl|rfl|rfl
 ·obtain⟨g,rfl⟩:∃q,g=q+1:=⟨g-1,by omega⟩
  have e:hd (bitO (64*gA p a 0+31) (0+1) (a+0) 0)=[(64*0+31)*262144/65536]:=by
   unfold hd bitO
   rw[p18]
   rfl
  rw[e]at h hl
  have b0:=h.wd (i:=0) (by simp)
  rw[Nat.add_zero]at b0
  replace b0:wd ws W.length=124:=b0
  simp only[List.length_cons,List.length_nil]at hl
  have s0:=six0 (ws:=ws) (a0:=a0) (j:=j)
  rw[hk,b0]at s0
  have l0:(24*j+5)/8=3*j:=by omega
  have r0:(8-(24*j+6)%8)%8=2:=by omega
  rw[edi_stop (by omega) s0 (by rw[l0,hk,b0,r0]),l0,hk]
  rfl
 ·have c0:=hc 0 (by omega)
  obtain⟨g,rfl⟩:∃q,g=q+2:=⟨g-2,by omega⟩
  have e:hd (bitO (64*gA p a 1+31) (1+1) (a+1) 0)=[(64*(by' p a%64)+31)*4096/65536,(64*(by' p a%64)+31)*4096/256%256]:=by
   unfold hd bitO
   rw[p12]
   simp only[gA,Nat.mul_zero,Nat.zero_add,Nat.add_zero]
   rfl
  rw[e]at h hl
  have b0:=h.wd (i:=0) (by simp)
  have b1:=h.wd (i:=1) (by simp)
  rw[Nat.add_zero]at b0
  replace b0:wd ws W.length=(64*(by' p a%64)+31)*4096/65536:=b0
  replace b1:wd ws (W.length+1)=(64*(by' p a%64)+31)*4096/256%256:=b1
  simp only[List.length_cons,List.length_nil]at hl
  have s0:=six0 (ws:=ws) (a0:=a0) (j:=j)
  have s1:=six1 (ws:=ws) (a0:=a0) (j:=j)
  rw[hk,b0]at s0
  rw[hk,b0,b1]at s1
  have l1:(24*j+6+5)/8=3*j+1:=by omega
  have r1:(8-(24*j+6+6)%8)%8=4:=by omega
  have t0:=take1 c0
  rw[Nat.add_zero]at t0
  rw[edi_chr (b:=by' p a) (by omega) (by rw[s0];omega) c0.2,t0,edi_stop (by omega) (by rw[s1];omega) (by rw[l1,←Nat.add_assoc,hk,b1,r1];omega),l1]
  congr 2
  omega
 ·have c0:=hc 0 (by omega)
  have c1:=hc 1 (by omega)
  obtain⟨g,rfl⟩:∃q,g=q+3:=⟨g-3,by omega⟩
  have e:hd (bitO (64*gA p a 2+31) (2+1) (a+2) 0)=[(64*(64*(by' p a%64)+by' p (a+1)%64)+31)*64/65536,(64*(64*(by' p a%64)+by' p (a+1)%64)+31)*64/256%256,(64*(64*(by' p a%64)+by' p (a+1)%64)+31)*64%256]:=by
   unfold hd bitO
   rw[p6]
   simp only[gA,Nat.mul_zero,Nat.zero_add,Nat.add_zero]
   rfl
  rw[e]at h hl
  have b0:=h.wd (i:=0) (by simp)
  have b1:=h.wd (i:=1) (by simp)
  have b2:=h.wd (i:=2) (by simp)
  rw[Nat.add_zero]at b0
  replace b0:wd ws W.length=(64*(64*(by' p a%64)+by' p (a+1)%64)+31)*64/65536:=b0
  replace b1:wd ws (W.length+1)=(64*(64*(by' p a%64)+by' p (a+1)%64)+31)*64/256%256:=b1
  replace b2:wd ws (W.length+2)=(64*(64*(by' p a%64)+by' p (a+1)%64)+31)*64%256:=b2
  simp only[List.length_cons,List.length_nil]at hl
  have s0:=six0 (ws:=ws) (a0:=a0) (j:=j)
  have s1:=six1 (ws:=ws) (a0:=a0) (j:=j)
  have s2:=six2 (ws:=ws) (a0:=a0) (j:=j)
  rw[hk,b0]at s0
  rw[hk,b0,b1]at s1
  rw[hk,b1,b2]at s2
  have l2:(24*j+6+6+5)/8=3*j+2:=by omega
  have r2:(8-(24*j+6+6+6)%8)%8=6:=by omega
  have t0:=take1 c0
  rw[Nat.add_zero]at t0
  rw[edi_chr (b:=by' p a) (by omega) (by rw[s0];omega) c0.2,t0,edi_chr (b:=by' p (a+1)) (by omega) (by rw[s1];omega) c1.2,take1 c1,edi_stop (by omega) (by rw[show 24*j+6+6=24*j+12 by omega,s2];omega) (by rw[l2,←Nat.add_assoc,hk,b2,r2];omega),l2]
  congr 2
  omega
 ·have c0:=hc 0 (by omega)
  have c1:=hc 1 (by omega)
  have c2:=hc 2 (by omega)
  obtain⟨g,rfl⟩:∃q,g=q+4:=⟨g-4,by omega⟩
  have e:hd (bitO (64*gA p a 3+31) (3+1) (a+3) 0)=[(64*(64*(64*(by' p a%64)+by' p (a+1)%64)+by' p (a+2)%64)+31)*1/65536,(64*(64*(64*(by' p a%64)+by' p (a+1)%64)+by' p (a+2)%64)+31)*1/256%256,(64*(64*(64*(by' p a%64)+by' p (a+1)%64)+by' p (a+2)%64)+31)*1%256]:=by
   unfold hd bitO
   rw[p0]
   simp only[gA,Nat.mul_zero,Nat.zero_add,Nat.add_zero]
   rfl
  rw[e]at h hl
  have b0:=h.wd (i:=0) (by simp)
  have b1:=h.wd (i:=1) (by simp)
  have b2:=h.wd (i:=2) (by simp)
  rw[Nat.add_zero]at b0
  replace b0:wd ws W.length=(64*(64*(64*(by' p a%64)+by' p (a+1)%64)+by' p (a+2)%64)+31)*1/65536:=b0
  replace b1:wd ws (W.length+1)=(64*(64*(64*(by' p a%64)+by' p (a+1)%64)+by' p (a+2)%64)+31)*1/256%256:=b1
  replace b2:wd ws (W.length+2)=(64*(64*(64*(by' p a%64)+by' p (a+1)%64)+by' p (a+2)%64)+31)*1%256:=b2
  simp only[List.length_cons,List.length_nil]at hl
  have s0:=six0 (ws:=ws) (a0:=a0) (j:=j)
  have s1:=six1 (ws:=ws) (a0:=a0) (j:=j)
  have s2:=six2 (ws:=ws) (a0:=a0) (j:=j)
  have s3:=six3 (ws:=ws) (a0:=a0) (j:=j)
  rw[hk,b0]at s0
  rw[hk,b0,b1]at s1
  rw[hk,b1,b2]at s2
  rw[hk,b2]at s3
  have l3:(24*j+6+6+6+5)/8=3*j+2:=by omega
  have r3:(8-(24*j+6+6+6+6)%8)%8=0:=by omega
  obtain⟨v0,v1,v2,v3⟩:=ar4 (x0:=by' p a%64) (x1:=by' p (a+1)%64) (x2:=by' p (a+2)%64) (x3:=31) (Nat.mod_lt _ (by omega)) (Nat.mod_lt _ (by omega)) (Nat.mod_lt _ (by omega)) (by omega) rfl
  rw[v0]at s0
  rw[v1]at s1
  rw[v2]at s2
  rw[v3]at s3
  have t0:=take1 c0
  rw[Nat.add_zero]at t0
  rw[edi_chr (b:=by' p a) (by omega) s0 c0.2,t0,edi_chr (b:=by' p (a+1)) (by omega) s1 c1.2,take1 c1,edi_chr (b:=by' p (a+2)) (by omega) (by rw[show 24*j+6+6=24*j+12 by omega,s2]) c2.2,take1 c2,edi_stop (by omega) (by rw[show 24*j+6+6+6=24*j+18 by omega,s3]) (by rw[r3];exact Nat.mod_one _),l3]
  congr 2
  omega
theorem edi_all_read{ws W:List Nat}{p:List UInt8}{a a0 j g:Nat}(hk:a0+3*j=W.length)(hc:∀t,t<4→okC p a t)(h:AtW ws W (hd (bitO (gA p a 4) 4 (a+4) 18))):ediD ws a0 (g+4) (24*j) (p.take a)=ediD ws a0 g (24*(j+1)) (p.take (a+4)):=by
 have hl:=h.len
 have p0:(2:Nat)^(6*(4-4))=1:=by decide
 have c0:=hc 0 (by omega)
 have c1:=hc 1 (by omega)
 have c2:=hc 2 (by omega)
 have c3:=hc 3 (by omega)
 have e:hd (bitO (gA p a 4) 4 (a+4) 18)=[(64*(64*(64*(by' p a%64)+by' p (a+1)%64)+by' p (a+2)%64)+by' p (a+3)%64)*1/65536,(64*(64*(64*(by' p a%64)+by' p (a+1)%64)+by' p (a+2)%64)+by' p (a+3)%64)*1/256%256,(64*(64*(64*(by' p a%64)+by' p (a+1)%64)+by' p (a+2)%64)+by' p (a+3)%64)*1%256]:=by
  unfold hd bitO
  rw[p0]
  simp only[gA,Nat.mul_zero,Nat.zero_add,Nat.add_zero]
  rfl
 rw[e]at h hl
 have b0:=h.wd (i:=0) (by simp)
 have b1:=h.wd (i:=1) (by simp)
 have b2:=h.wd (i:=2) (by simp)
 rw[Nat.add_zero]at b0
 replace b0:wd ws W.length=(64*(64*(64*(by' p a%64)+by' p (a+1)%64)+by' p (a+2)%64)+by' p (a+3)%64)*1/65536:=b0
 replace b1:wd ws (W.length+1)=(64*(64*(64*(by' p a%64)+by' p (a+1)%64)+by' p (a+2)%64)+by' p (a+3)%64)*1/256%256:=b1
 replace b2:wd ws (W.length+2)=(64*(64*(64*(by' p a%64)+by' p (a+1)%64)+by' p (a+2)%64)+by' p (a+3)%64)*1%256:=b2
 simp only[List.length_cons,List.length_nil]at hl
 have s0:=six0 (ws:=ws) (a0:=a0) (j:=j)
 have s1:=six1 (ws:=ws) (a0:=a0) (j:=j)
 have s2:=six2 (ws:=ws) (a0:=a0) (j:=j)
 have s3:=six3 (ws:=ws) (a0:=a0) (j:=j)
 rw[hk,b0]at s0
 rw[hk,b0,b1]at s1
 rw[hk,b1,b2]at s2
 rw[hk,b2]at s3
 obtain⟨v0,v1,v2,v3⟩:=ar4 (x0:=by' p a%64) (x1:=by' p (a+1)%64) (x2:=by' p (a+2)%64) (x3:=by' p (a+3)%64) (Nat.mod_lt _ (by omega)) (Nat.mod_lt _ (by omega)) (Nat.mod_lt _ (by omega)) (Nat.mod_lt _ (by omega)) rfl
 rw[v0]at s0
 rw[v1]at s1
 rw[v2]at s2
 rw[v3]at s3
 have t0:=take1 c0
 rw[Nat.add_zero]at t0
 rw[edi_chr (b:=by' p a) (by omega) s0 c0.2,t0,edi_chr (b:=by' p (a+1)) (by omega) s1 c1.2,take1 c1,edi_chr (b:=by' p (a+2)) (by omega) (by rw[show 24*j+6+6=24*j+12 by omega,s2]) c2.2,take1 c2,edi_chr (b:=by' p (a+3)) (by omega) (by rw[show 24*j+6+6+6=24*j+18 by omega,s3]) c3.2,take1 c3]
 congr 1
end Go.Proofs.Ythnflhimcmdnbaa
namespace Go.Proofs.Ythnflhimcmdnbaa
open Go.Abs
set_option linter.unusedSimpArgs false
set_option linter.unusedVariables false
set_option maxRecDepth 20000
def Fin'(ws:List Nat)(p:List UInt8)(k:Nat)(o:List UInt8):Prop:=∀g,ws.length-k<g→decL ws g k o=.inr p
def RdCT(ws:List Nat)(p:List UInt8)(lower:Bool)(s:Nat)(up:Bool)(k a:Nat):Prop:=∀g,ws.length-k<g→∃a' o',valsS ws lower g k (s,up,p.take a)=.inr (a',o')∧k<a'∧Fin' ws p a' o'
def RdX(ws:List Nat)(p:List UInt8)(k a:Nat):Prop:=∀g,ws.length-k<g→∃a' o',x12S' ws g k (p.take a)=.inr (a',o')∧k<a'∧Fin' ws p a' o'
def RdE(ws:List Nat)(p:List UInt8)(k a:Nat):Prop:=∀a0 j g,a0+3*j=k→8*ws.length+6≤6*g+24*j→∃a' o',ediD ws a0 g (24*j) (p.take a)=.inr (a',o')∧a0<a'∧Fin' ws p a' o'
def Rds(ws:List Nat)(p:List UInt8)(st k a:Nat):Prop:=
 if st=0 then Fin' ws p k (p.take a) else if st<9 then RdCT ws p false ((st-1)%4) (decide (4≤st-1)) k a
 else if st<17 then RdCT ws p true ((st-9)%4) (decide (4≤st-9)) k a else if st=17 then RdX ws p k a else RdE ws p k a
theorem rds_ct{first:Nat}{lower:Bool}(h:isCT first lower){s:Nat}{up:Bool}(hs:s<4){ws:List Nat}{p:List UInt8}{k a:Nat}:Rds ws p (stV first s up) k a=RdCT ws p lower s up k a:=by
 have hx:∃x,x<8∧stV first s up=first+x∧x%4=s∧decide (4≤x)=up:=by
  cases up with
  | true=>exact⟨s+4,by omega,by unfold stV modeS;simp;omega,by omega,by simp⟩
  | false=>exact⟨s,by omega,by unfold stV modeS;simp,by omega,by simp;omega⟩
 obtain⟨x,hx1,hx2,hx3,hx4⟩:=hx
 rw[hx2]
 unfold Rds
 rcases h with ⟨rfl,rfl⟩|⟨rfl,rfl⟩
 ·rw[if_neg (by omega),if_pos (by omega),show 1+x-1=x by omega,hx3,hx4]
 ·rw[if_neg (by omega),if_neg (by omega),if_pos (by omega),show 9+x-9=x by omega,hx3,hx4]
section
variable {ws W:List Nat}{p:List UInt8}{a:Nat}{o:Opt}
theorem emit_hd{k:Nat}(h:o.run=0):emit p k a o=hd o:=by unfold emit;rw[if_pos h]
theorem fin_go{k a':Nat}{q q':List UInt8}(h1:k<ws.length)(h2:wd ws k≠129)(h3:ascD ws (wd ws k) (k+1) q=.inr (a',q'))(h4:k<a')(h5:Fin' ws p a' q'):Fin' ws p k q:=by
 intro g hg
 obtain⟨g,rfl⟩:∃t,g=t+1:=⟨g-1,by omega⟩
 rw[decL,if_neg (by omega),if_neg h2,h3]
 exact h5 g (by omega)
theorem ct_step{first s:Nat}{lower up:Bool}(hct:isCT first lower)(hs:s<4)(ha:a≤p.length)(ho:o ∈ latO a::tri1 p first lower (movS p a s up lower))(h:AtW ws W (hd o))(hr:Rds ws p o.md (W.length+(hd o).length) o.nx):RdCT ws p lower s up W.length a:=by
 intro g hg
 obtain⟨g,rfl⟩:∃t,g=t+1:=⟨g-1,by omega⟩
 have hl:=h.len
 rcases List.mem_cons.1 ho with rfl|ho
 ·refine⟨W.length+1,p.take a,?_,by omega,?_⟩
  ·rw[valsS,lat_read h]
  ·have e:Rds ws p 0 (W.length+1) a=Fin' ws p (W.length+1) (p.take a):=rfl
   rw[←e]
   exact hr
 ·unfold tri1 tri2 tri3 at ho
  obtain⟨u,hu,ho⟩:=List.mem_flatMap.1 ho
  obtain⟨v,hv,ho⟩:=List.mem_flatMap.1 ho
  obtain⟨w,hw,rfl⟩:=List.mem_map.1 ho
  obtain⟨hu1,_,hu3,hu4⟩:=movS_ok ha u hu
  obtain⟨hv1,_,hv3,hv4⟩:=movS_ok hu3 v hv
  obtain⟨hw1,_,hw3,hw4⟩:=movS_ok hv3 w hw
  have ht:=tri_read hu1 hv1 hw1 h
  have h2:(hd (triO u.v v.v w.v w.a (modeS first w))).length=2:=rfl
  rw[h2]at hr hl
  have hr':Rds ws p (stV first w.s w.u) (W.length+2) w.a:=hr
  rw[rds_ct hct (by omega)]at hr'
  obtain⟨a',o',h3,h4,h5⟩:=hr' g (by omega)
  refine⟨a',o',?_,by omega,h5⟩
  rw[valsS,ht]
  simp only
  have hv3':val3 lower (s,up,p.take a) (u.v,v.v,w.v)=.inr (w.s,w.u,p.take w.a):=by
   unfold val3
   simp only
   rw[mov_val hu]
   simp only
   rw[mov_val hv]
   simp only
   exact mov_val hw
  rw[hv3']
  exact h3
theorem x_step(ha:a≤p.length)(ho:o ∈ x12O p a)(h:AtW ws W (hd o))(hr:Rds ws p o.md (W.length+(hd o).length) o.nx):RdX ws p W.length a:=by
 intro g hg
 obtain⟨g,rfl⟩:∃t,g=t+1:=⟨g-1,by omega⟩
 have hl:=h.len
 unfold x12O at ho
 rcases List.mem_cons.1 ho with rfl|ho
 ·refine⟨W.length+1,p.take a,?_,by omega,?_⟩
  ·rw[x12S',lat_read h]
  ·have e:Rds ws p 0 (W.length+1) a=Fin' ws p (W.length+1) (p.take a):=rfl
   rw[←e]
   exact hr
 ·split at ho
  ·rename_i hc
   obtain⟨c0,c1,c2,c3⟩:=hc
   obtain rfl:=List.mem_singleton.1 ho
   have q1:=x12S_le (by' p a)
   have q2:=x12S_le (by' p (a+1))
   have q3:=x12S_le (by' p (a+2))
   have ht:=tri_read (by omega) (by omega) (by omega) h
   have h2:(hd (triO (x12S (by' p a)-1) (x12S (by' p (a+1))-1) (x12S (by' p (a+2))-1) (a+3) 17)).length=2:=rfl
   rw[h2]at hr hl
   have hr':RdX ws p (W.length+2) (a+3):=hr
   obtain⟨a',o',h3,h4,h5⟩:=hr' g (by omega)
   refine⟨a',o',?_,by omega,h5⟩
   rw[x12S',ht]
   simp only
   rw[xchr_x12 (by_lt p a) c1,xchr_x12 (by_lt p (a+1)) c2,xchr_x12 (by_lt p (a+2)) c3]
   have e:p.take a++[UInt8.ofNat (by' p a),UInt8.ofNat (by' p (a+1)),UInt8.ofNat (by' p (a+2))]=p.take (a+3):=by
    rw[show a+3=a+2+1 by omega,take_by (by omega),show a+2=a+1+1 by omega,take_by (show a+1<p.length by omega),take_by (show a<p.length by omega)]
    simp
   rw[e]
   exact h3
  ·cases ho
theorem e_step(ha:a≤p.length)(ho:o ∈ ediS p a)(h:AtW ws W (hd o))(hr:Rds ws p o.md (W.length+(hd o).length) o.nx):RdE ws p W.length a:=by
 intro a0 j g hk hg
 have hl:=h.len
 have hok:=ediS_ok ha o ho
 have hz:=hok.sz
 have hhl:=hd_len hz.2
 have hg5:3≤o.sz→5≤g:=fun h=>by omega
 rcases edi_mem 4 0 rfl ho with ⟨i,_,hi,hc,rfl⟩|⟨hc,rfl⟩
 ·have hsz:(bitO (64*gA p a i+31) (i+1) (a+i) 0).sz=(6*(i+1)+7)/8:=rfl
  rw[hhl,hsz]at hr
  have hr':Fin' ws p (W.length+(6*(i+1)+7)/8) (p.take (a+i)):=hr
  exact⟨_,_,edi_end_read hk hi (fun t ht=>hc t (by omega) ht) h (by omega),by omega,hr'⟩
 ·have hsz:(bitO (gA p a 4) 4 (a+4) 18).sz=3:=rfl
  have hnx:(bitO (gA p a 4) 4 (a+4) 18).nx=a+4:=rfl
  rw[hhl,hsz]at hr
  have hr':RdE ws p (W.length+3) (a+4):=hr
  obtain⟨g,rfl⟩:∃t,g=t+4:=⟨g-4,by have:=hg5 (by rw[hsz];omega);omega⟩
  rw[edi_all_read hk (fun t ht=>hc t (by omega) ht) h]
  exact hr' a0 (j+1) g (by omega) (by omega)
theorem rd_step{c:List Nat}{st:Nat}(ha:a≤p.length)(hst:st<19)(ho:o ∈ optS p c a st)(h:AtW ws W (emit p W.length a o))(hr:Rds ws p o.md (W.length+(emit p W.length a o).length) o.nx):Rds ws p st W.length a:=by
 have hok:=optS_ok ha o ho
 have hz:=hok.sz
 by_cases h0:st=0
 ·subst h0
  show Fin' ws p W.length (p.take a)
  have ho:o ∈ ascS p c a:=ho
  unfold ascS at ho
  rcases List.mem_append.1 ho with ho|ho
  ·have hrun:o.run=0:=by
    simp only[lats,List.mem_cons,List.not_mem_nil,or_false]at ho
    rcases ho with rfl|rfl|rfl|rfl<;>rfl
   rw[emit_hd hrun]at h hr
   have hl:=h.len
   have hhl:=hd_len hz.2
   have g0:=h.wd (i:=0) (by omega)
   rw[Nat.add_zero]at g0
   simp only[lats,List.mem_cons,List.not_mem_nil,or_false]at ho
   rcases ho with rfl|rfl|rfl|rfl
   ·have hr':RdCT ws p false 0 false (W.length+1) a:=hr
    replace g0:wd ws W.length=230:=g0
    obtain⟨a',o',h1,h2,h3⟩:=hr' (ws.length+1) (by omega)
    refine fin_go (by simp only at hhl;omega) (by omega) (a':=a') (q':=o') ?_ (by omega) h3
    rw[g0]
    exact h1
   ·have hr':RdCT ws p true 0 false (W.length+1) a:=hr
    replace g0:wd ws W.length=239:=g0
    obtain⟨a',o',h1,h2,h3⟩:=hr' (ws.length+1) (by omega)
    refine fin_go (by simp only at hhl;omega) (by omega) (a':=a') (q':=o') ?_ (by omega) h3
    rw[g0]
    exact h1
   ·have hr':RdX ws p (W.length+1) a:=hr
    replace g0:wd ws W.length=238:=g0
    obtain⟨a',o',h1,h2,h3⟩:=hr' (ws.length+1) (by omega)
    refine fin_go (by simp only at hhl;omega) (by omega) (a':=a') (q':=o') ?_ (by omega) h3
    rw[g0]
    exact h1
   ·have hr':RdE ws p (W.length+1) a:=hr
    replace g0:wd ws W.length=240:=g0
    obtain⟨a',o',h1,h2,h3⟩:=hr' (W.length+1) 0 (2*ws.length+2) (by omega) (by omega)
    refine fin_go (by simp only at hhl;omega) (by omega) (a':=a') (q':=o') ?_ (by omega) h3
    rw[g0]
    exact h1
  ·split at ho
   ·rename_i hap
    have hb:=by_lt p a
    simp only[List.mem_append,List.mem_singleton]at ho
    rcases ho with (rfl|ho)|rfl
    ·by_cases h128:by' p a<128
     ·have e:byteO (by' p a) a=⟨by' p a+1,0,0,1,0,a+1,0⟩:=by unfold byteO;rw[if_pos h128]
      rw[e]at h hr
      rw[emit_hd rfl]at h hr
      have hl:=h.len
      have g0:=h.wd (i:=0) (by simp[hd])
      rw[Nat.add_zero]at g0
      replace g0:wd ws W.length=by' p a+1:=g0
      have hr':Fin' ws p (W.length+1) (p.take (a+1)):=hr
      replace hl:W.length+1≤ws.length:=hl
      refine fin_go (by omega) (by omega) (a':=W.length+1) (q':=p.take (a+1)) ?_ (by omega) hr'
      rw[g0]
      unfold ascD
      rw[if_pos (by omega),Nat.add_sub_cancel,take_by hap]
     ·have e:byteO (by' p a) a=⟨235,by' p a-127,0,2,0,a+1,0⟩:=by unfold byteO;rw[if_neg h128]
      rw[e]at h hr
      rw[emit_hd rfl]at h hr
      have hl:=h.len
      have g0:=h.wd (i:=0) (by simp[hd])
      have g1:=h.wd (i:=1) (by simp[hd])
      rw[Nat.add_zero]at g0
      replace g0:wd ws W.length=235:=g0
      replace g1:wd ws (W.length+1)=by' p a-127:=g1
      have hr':Fin' ws p (W.length+2) (p.take (a+1)):=hr
      replace hl:W.length+2≤ws.length:=hl
      refine fin_go (by omega) (by omega) (a':=W.length+2) (q':=p.take (a+1)) ?_ (by omega) hr'
      rw[g0]
      show upS ws (W.length+1) (p.take a)=_
      unfold upS
      rw[g1,if_neg (by omega),if_neg (by omega),take_by hap,show by' p a-127+127=by' p a by omega]
    ·unfold pairO at ho
     split at ho
     ·rename_i hc
      obtain⟨c1,c2,c3⟩:=hc
      have d1:=digB_iff.1 c2
      have d2:=digB_iff.1 c3
      obtain rfl:=List.mem_singleton.1 ho
      rw[emit_hd rfl]at h hr
      have hl:=h.len
      have g0:=h.wd (i:=0) (by simp[hd])
      rw[Nat.add_zero]at g0
      replace g0:wd ws W.length=130+(10*(by' p a-48)+by' p (a+1)-48):=g0
      have hr':Fin' ws p (W.length+1) (p.take (a+2)):=hr
      replace hl:W.length+1≤ws.length:=hl
      refine fin_go (by omega) (by omega) (a':=W.length+1) (q':=p.take (a+2)) ?_ (by omega) hr'
      rw[g0]
      unfold ascD
      rw[if_neg (by omega),if_pos (by omega)]
      have e1:48+(130+(10*(by' p a-48)+by' p (a+1)-48)-130)/10=by' p a:=by omega
      have e2:48+(130+(10*(by' p a-48)+by' p (a+1)-48)-130)%10=by' p (a+1):=by omega
      rw[e1,e2,show a+2=a+1+1 by omega,take_by (show a+1<p.length by omega),take_by hap]
      simp
     ·cases ho
    ·obtain⟨n,h1,h2,e⟩:=binB_ex (cs:=c) (at':=a) (min (p.length-a) 1749) (by omega)
     have e':binS p c a=binO a n:=e
     rw[e']at h hr
     have hrun:(binO a n).run=n:=by unfold binO;split<;>rfl
     have hzz:1≤(binO a n).sz∧(binO a n).sz≤3:=by unfold binO;split<;>simp
     have hmd:(binO a n).md=0:=by unfold binO;split<;>rfl
     obtain⟨g0,g1,g2⟩:=bin_read h1 (by omega) (by omega) h
     rw[emit_len hzz (by rw[hrun];omega),hmd,binO_nx,hrun]at hr
     have hr':Fin' ws p (W.length+((binO a n).sz+n)) (p.take (a+n)):=hr
     rw[←Nat.add_assoc]at hr'
     refine fin_go g1 (by omega) (a':=W.length+(binO a n).sz+n) (q':=p.take (a+n)) ?_ (by omega) hr'
     rw[g0]
     exact g2
   ·cases ho
 ·have hrun:o.run=0:=by
   rcases optS_run o ho with h|h
   ·exact h
   ·exact absurd h.2.2.2 h0
  rw[emit_hd hrun]at h hr
  unfold optS at ho
  rw[if_neg h0]at ho
  unfold Rds
  rw[if_neg h0]
  split at ho
  ·rename_i h9
   rw[if_pos h9]
   exact ct_step (first:=1) (.inl ⟨rfl,rfl⟩) (Nat.mod_lt _ (by decide)) ha ho h hr
  ·rename_i h9
   rw[if_neg h9]
   split at ho
   ·rename_i h17
    rw[if_pos h17]
    exact ct_step (first:=9) (.inr ⟨rfl,rfl⟩) (Nat.mod_lt _ (by decide)) ha ho h hr
   ·rename_i h17
    rw[if_neg h17]
    split at ho
    ·rename_i h17
     rw[if_pos h17]
     exact x_step ha ho h hr
    ·rename_i h17
     rw[if_neg h17]
     exact e_step ha ho h hr
end
theorem wrd_pre{p:List UInt8}{c:List Nat}:∀(f a st:Nat) (W:List Nat),∃r,wrdS p c f a st W=W++r
 | 0,a,st,W=>⟨[],by simp[wrdS]⟩
 | f+1,a,st,W=>by
  rw[wrdS]
  split
  ·exact⟨[],by simp⟩
  ·obtain⟨r,hr⟩:=wrd_pre (p:=p) (c:=c) f (chs p c a st).nx (chs p c a st).md (W++emit p W.length a (chs p c a st))
   exact⟨_,by rw[hr,List.append_assoc]⟩
def Tail(ws R:List Nat):Prop:=∃t,ws=R++t∧(t=[]∨∃t',t=129::t')
theorem rd_all{ws:List Nat}{p:List UInt8}{c:List Nat}(hs:Sol p c):∀(f a st:Nat) (W:List Nat),a≤p.length→st<19→cst c a st<1073741824→cst c a st<f→Tail ws (wrdS p c f a st W)→Rds ws p st W.length a
 | 0,a,st,W,ha,hst,hc,hf,ht=>by omega
 | f+1,a,st,W,ha,hst,hc,hf,ht=>by
  rw[wrdS]at ht
  split at ht
  ·rename_i hfin
   obtain⟨rfl,rfl⟩:=hfin
   show Fin' ws p W.length (p.take p.length)
   rw[List.take_length]
   obtain⟨t,rfl,ht⟩:=ht
   intro g hg
   rcases ht with rfl|⟨t',rfl⟩
   ·cases g with
    | zero=>rfl
    | succ g=>rw[decL,if_pos (by simp)]
   ·obtain⟨g,rfl⟩:∃q,g=q+1:=⟨g-1,by omega⟩
    rw[decL,if_neg (by simp),if_pos (by simp[wd,List.getD_eq_getElem?_getD])]
  ·rename_i hfin
   obtain⟨hm,htot⟩:=chs_ok hs ha hst hc hfin
   have hok:=optS_ok ha _ hm
   have e:totS c (chs p c a st)=(chs p c a st).sz+(chs p c a st).run+cst c (chs p c a st).nx (chs p c a st).md:=rfl
   have hz:=hok.sz
   have ih:=rd_all hs f _ _ _ hok.nx.2 hok.md (by omega) (by omega) ht
   obtain⟨t,ht,_⟩:=ht
   obtain⟨r,hr⟩:=wrd_pre (p:=p) (c:=c) f (chs p c a st).nx (chs p c a st).md (W++emit p W.length a (chs p c a st))
   rw[hr]at ht
   rw[List.length_append]at ih
   exact rd_step ha hst hm ⟨r++t,by rw[ht,List.append_assoc]⟩ ih
theorem dec_enc{ws:List Nat}{p:List UInt8}{c:List Nat}(hs:Sol p c)(hp:p.length≤4096)(ht:Tail ws (encS p c)):decS ws=.inr p:=by
 have hc:=cost_asc hs p.length 0 (by omega)
 have h:=rd_all hs _ 0 0 [] (Nat.zero_le _) (by omega) (by omega) (by omega) ht
 have h':Fin' ws p 0 []:=by simpa[Rds]using h
 exact h' _ (by omega)
end Go.Proofs.Ythnflhimcmdnbaa
namespace Go.Proofs.Ythnflhimcmdnbaa
open Go.Abs
set_option linter.unusedSimpArgs false
set_option linter.unusedVariables false
set_option maxRecDepth 20000
theorem mk_le:∀(k:Nat) (l:List Nat),∀x ∈ mk k l,x≤255
 | k,y::l,x,h=>by
  simp only[mk]at h
  rcases List.mem_cons.1 h with rfl|h
  ·omega
  ·exact mk_le (k+1) l x h
theorem hd_le{o:Opt}(h:o.h0≤255∧o.h1≤255∧o.h2≤255):∀x ∈ hd o,x≤255:=by
 intro x hx
 have:=List.mem_of_mem_take hx
 simp only[List.mem_cons,List.not_mem_nil,or_false]at this
 rcases this with rfl|rfl|rfl<;>omega
theorem emit_le{p:List UInt8}{k a:Nat}{o:Opt}(h:o.h0≤255∧o.h1≤255∧o.h2≤255):∀x ∈ emit p k a o,x≤255:=by
 intro x hx
 unfold emit at hx
 split at hx
 ·exact hd_le h x hx
 ·rcases List.mem_cons.1 hx with rfl|hx
  ·exact h.1
  ·exact mk_le _ _ x hx
theorem wrd_le{p:List UInt8}{c:List Nat}(hs:Sol p c):∀(f a st:Nat) (W:List Nat),a≤p.length→st<19→cst c a st<1073741824→(∀x ∈ W,x≤255)→∀x ∈ wrdS p c f a st W,x≤255
 | 0,a,st,W,ha,hst,hc,hW=>hW
 | f+1,a,st,W,ha,hst,hc,hW=>by
  rw[wrdS]
  split
  ·exact hW
  ·rename_i hfin
   obtain⟨hm,ht⟩:=chs_ok hs ha hst hc hfin
   have hok:=optS_ok ha _ hm
   have e:totS c (chs p c a st)=(chs p c a st).sz+(chs p c a st).run+cst c (chs p c a st).nx (chs p c a st).md:=rfl
   refine wrd_le hs f _ _ _ hok.nx.2 hok.md (by omega) fun x hx=>?_
   rcases List.mem_append.1 hx with hx|hx
   ·exact hW x hx
   ·exact emit_le hok.h x hx
theorem enc_le{p:List UInt8}{c:List Nat}(hs:Sol p c)(hp:p.length≤4096):∀x ∈ encS p c,x≤255:=by
 have:=cost_asc hs p.length 0 (by omega)
 exact wrd_le hs _ _ _ _ (Nat.zero_le _) (by omega) (by omega) (by simp)
abbrev zI(l:List Nat):List Int:=l.map (fun i:Nat=>(i:Int))
theorem zI_nat(l:List Nat):(zI l).map Int.toNat=l:=by
 rw[List.map_map]
 have:(Int.toNat ∘ fun i:Nat=>(i:Int))=id:=by funext i;simp
 rw[this,List.map_id]
theorem cw_zI{l:List Nat}(h:∀x ∈ l,x≤255):cwB (zI l)=true:=by
 unfold cwB
 rw[List.all_eq_true]
 intro x hx
 obtain⟨y,hy,rfl⟩:=List.mem_map.1 hx
 have:=h y hy
 simp
 omega
theorem padN_le{k i:Nat}:padN k i≤254:=by
 unfold padN
 split
 ·omega
 ·split<;>omega
def padW(l:List Nat)(m:Nat):List Nat:=l++(List.range m).map fun j=>padN l.length (l.length+j)
theorem padL_zI(l:List Nat)(m:Nat):padL (zI l) m=zI (padW l m):=by
 unfold padL padW zI
 rw[List.map_append,List.map_map,List.length_map]
 rfl
theorem padW_le{l:List Nat}{m:Nat}(h:∀x ∈ l,x≤255):∀x ∈ padW l m,x≤255:=by
 intro x hx
 rcases List.mem_append.1 hx with hx|hx
 ·exact h x hx
 ·obtain⟨j,_,rfl⟩:=List.mem_map.1 hx
  have:=padN_le (k:=l.length) (i:=l.length+j)
  omega
theorem padW_tail(l:List Nat)(m:Nat):Tail (padW l m) l:=by
 refine⟨_,rfl,?_⟩
 cases m with
 | zero=>exact .inl rfl
 | succ m=>
  refine .inr ⟨(List.map Nat.succ (List.range m)).map fun j=>padN l.length (l.length+j),?_⟩
  rw[List.range_succ_eq_map,List.map_cons]
  have:padN l.length (l.length+0)=129:=by unfold padN;rw[if_pos (by omega)]
  rw[this]
theorem pad_enc{l:List Nat}{m:Nat}(h:∀x ∈ l,x≤255)(hl:l.length+m≤8192):padT (zI l) ((l.length:Int)+(m:Nat))=.inr (padL (zI l) m):=by
 unfold padT
 rw[cw_zI h,if_neg (by decide),if_neg (by omega),if_neg (by simp;omega)]
 congr 2
 simp
 omega
theorem dec_zI{l:List Nat}{p:List UInt8}(h:∀x ∈ l,x≤255)(hl:l.length≤8192)(hd:decS l=.inr p):decT (zI l)=.inr p:=by
 unfold decT
 rw[cw_zI h,if_neg (by decide),if_neg (by simp;omega),zI_nat]
 exact hd
theorem cost_bin{p:List UInt8}{c:List Nat}(hs:Sol p c)(h1:1≤p.length)(h2:p.length≤1749):cst c 0 0≤p.length+(if p.length<250 then 2 else 3):=by
 have hm:=opt_bin (p:=p) (a:=0) (n:=p.length) h1 h2 (by omega)
 have e:(binO 0 p.length).sz=(if p.length<250 then 2 else 3)∧(binO 0 p.length).run=p.length∧(binO 0 p.length).md=0:=by unfold binO;split<;>simp
 have hp:=Pth.cons (p:=p) (a:=0) (st:=0) (m:=0) (Nat.zero_le _) (by omega) hm (by rw[binO_nx,e.2.2,Nat.zero_add];exact .nil)
 have:=cost_le hs hp
 rw[e.1,e.2.1]at this
 omega
theorem cost_nil{p:List UInt8}{c:List Nat}(hs:Sol p c)(h:p.length=0):cst c 0 0=0:=by
 have:=(hs.row p.length (Nat.le_refl _)).fin rfl
 rw[h]at this
 exact this
theorem sl_hiI{H:Heap}{v:Value}{l:List Int}{n:Nat}(h:SlI H v l)(hn:n≤l.length):∃v',(∀G,lsem (.sl 1 false true false) [v,.int .i64 (n:Nat)] G=some v')∧SlI H v' (l.take n):=by
 rcases h with ⟨rfl,rfl⟩|⟨b,o,sp,cap,xs,rfl,h2,h3,h4,h5,h6⟩
 ·have:n=0:=by simpa using hn
  subst this
  exact⟨.slice none 0 0,fun _=>rfl,.inl ⟨rfl,rfl⟩⟩
 ·have hd:(xs.drop o).take n=(l.take n).map (Value.int .i64):=by
   rw[List.map_take,←h3,List.take_take,Nat.min_eq_left hn]
  have hl:(l.take n).length=n:=List.length_take_of_le hn
  rcases h5 with rfl|rfl
  ·refine⟨.slice (some ⟨b,o,none⟩) n cap,?_,.inr ⟨b,o,none,cap,xs,by rw[hl],h2,by rw[hl];exact hd,by rw[hl];omega,.inl rfl,by rw[hl];omega⟩⟩
   intro G
   rw[ls_slx,bd_hi (by omega) (by omega)]
   simp
  ·refine⟨.slice (some ⟨b,o,some 1⟩) n cap,?_,.inr ⟨b,o,some 1,cap,xs,by rw[hl],h2,by rw[hl];exact hd,by rw[hl];omega,.inr rfl,by rw[hl];omega⟩⟩
   intro G
   rw[ls_sli,bd_hi (by omega) (by omega)]
   simp
theorem padL_take(l:List Int)(m:Nat):(padL l m).take l.length=l:=by unfold padL;simp
end Go.Proofs.Ythnflhimcmdnbaa
namespace Go.Proofs.Ythnflhimcmdnbaa
open Go.Abs
set_option linter.unusedSimpArgs false
set_option linter.unusedVariables false
set_option maxRecDepth 20000
section
variable {lo:Nat}{H:Heap}{v:Value}
theorem lawRet{p:List UInt8}{more:Int}(hv:SlU H v p)(hlo:lo≤H.length):Ev cp lo 5 [v,.int .i64 more] H (fun r _=>r=.bool true):=by
 obtain⟨ad,c,ev⟩:=hv.len
 rw[ev]at hv ⊢
 clear ev
 refine st5 ?_;unfold bd5 cf5;simp only[kB,ctlB]
 repeat' ((first|refine xSDg ?_|refine xODg rfl ?_);(try simp only[ctlB]))
 by_cases hb:300<p.length∨more<0∨50<more
 ·have hd:((decide ((p.length:Int)>300) || decide (more<0)) || decide (more>50))=true:=by
   simp only[Bool.or_eq_true,decide_eq_true_eq];omega
  refine xCDg (fun h=>?_) (fun h=>?_)
  ·clear h
   (try simp only[ctlB])
   refine xHDg ?_
   refine wpH_call0 (alive hlo) ?_
   rintro r H1 ⟨hx,rfl⟩
   (try simp only[ctlB])
   repeat' ((first|refine xSDg ?_|refine xODg rfl ?_);(try simp only[ctlB]))
   refine xRDg ?_
   rfl
  ·exfalso;first|(rw[hd]at h;cases h)|cases h
 have hd:((decide ((p.length:Int)>300) || decide (more<0)) || decide (more>50))=false:=by
  simp only[Bool.or_eq_false_iff,decide_eq_false_iff_not];omega
 refine xCDg (fun h=>?_) (fun h=>?_)
 ·exfalso;first|(rw[hd]at h;cases h)|cases h
 clear h hd
 have hp3:p.length≤300:=by omega
 obtain⟨m,rfl,hm⟩:∃m:Nat,more=(m:Int)∧m≤50:=⟨more.toNat,by omega,by omega⟩
 clear hb
 (try simp only[ctlB])
 refine xHDg ?_
 refine wpH_call0 (encP hv (by omega) hlo) ?_
 rintro r H1 ⟨hx1,u,cs,hn,rfl,hu⟩
 have hl1:=hx1.1
 have hs:=new_sol hn
 (try simp only[ctlB])
 repeat' ((first|refine xSDg ?_|refine xODg rfl ?_);(try simp only[ctlB]))
 refine xHDg ?_
 refine wpH_call0 (lngP (hv.mono hx1) (by omega) (by omega)) ?_
 rintro r H2 ⟨hx2,c2,hn2,rfl⟩
 obtain rfl:=sol_uniq hs (new_sol hn2)
 have hx12:=hx1.trans hx2
 have hl2:=hx12.1
 have hel:=enc_len hs (by omega)
 have hcl:=cost_asc hs p.length 0 (by omega)
 have hle:=enc_le hs (by omega)
 have hd1:=dec_enc hs (by omega) (ws:=encS p cs) ⟨[],by simp,.inl rfl⟩
 have hd2:=dec_enc hs (by omega) (ws:=padW (encS p cs) m) (padW_tail _ _)
 have hbd:(1≤p.length→p.length≤1749→cst cs 0 0≤p.length+(if p.length<250 then 2 else 3))∧(p.length=0→cst cs 0 0=0):=⟨cost_bin hs,cost_nil hs⟩
 clear hn hn2 hs
 generalize encS p cs=E at hu hel hle hd1 hd2
 generalize cst cs 0 0=n at hel hcl hbd ⊢
 have hu2:=encN_sli (hu.mono hx2)
 have hte:=pad_enc (m:=m) hle (by omega)
 have hdt1:=dec_zI hle (by omega) hd1
 have hdt2:=dec_zI (padW_le (m:=m) hle) (by unfold padW;simp;omega) hd2
 rw[←padL_zI]at hdt2
 have hzl:(zI E).length=n:=by simp[hel]
 have hpl:=padL_len (zI E) m
 have hpt:=padL_take (zI E) m
 rw[hzl]at hpl hpt
 rw[hel]at hte
 clear hu hle hd1 hd2
 replace hu2:SlI H2 u (zI E):=hu2
 generalize zI E=Z at hu2 hte hdt1 hdt2 hzl hpl hpt
 clear hel
 obtain⟨au,cu,eu⟩:=hu2.len
 rw[hzl]at eu
 rw[eu]at hu2 ⊢
 clear eu
 (try simp only[ctlB])
 repeat' ((first|refine xSDg ?_|refine xODg rfl ?_);(try simp only[ctlB]))
 refine xCDg (fun h=>?_) (fun h=>?_)
 ·exfalso;simp at h
 clear h
 (try simp only[ctlB])
 refine xHDg ?_
 refine wpH_call0 (decP hu2 (by omega) (by omega)) ?_
 intro r H3 hr
 rw[hdt1]at hr
 obtain⟨hx3,q,rfl,hq⟩:=hr
 have hx13:=hx12.trans hx3
 have hl3:=hx13.1
 clear hdt1
 (try simp only[ctlB])
 repeat' ((first|refine xSDg ?_|refine xODg rfl ?_);(try simp only[ctlB]))
 have hmin:IntKind.i64.min=-9223372036854775808:=by decide
 have hmax:IntKind.i64.max=9223372036854775807:=by decide
 have hnr:IntKind.i64.min≤(n:Int)+(m:Nat)∧(n:Int)+(m:Nat)≤IntKind.i64.max:=by omega
 clear hmin hmax
 refine xHDg ?_
 refine wpH_call0 (padP (n:=(n:Int)+(m:Nat)) (hu2.mono hx3) (by omega) hnr (by omega)) ?_
 intro r H4 hr
 rw[hte]at hr
 obtain⟨hx4,w,rfl,hw⟩:=hr
 have hx14:=hx13.trans hx4
 have hl4:=hx14.1
 clear hte hnr
 have hw0:=hw
 obtain⟨aw,cw,ew⟩:=hw.len
 rw[hpl]at ew
 rw[ew]at hw ⊢
 clear ew hw0
 (try simp only[ctlB])
 repeat' ((first|refine xSDg ?_|refine xODg rfl ?_);(try simp only[ctlB]))
 refine xHDg ?_
 refine wpH_call0 (decP hw (by omega) (by omega)) ?_
 intro r H5 hr
 rw[hdt2]at hr
 obtain⟨hx5,q2,rfl,hq2⟩:=hr
 have hx15:=hx14.trans hx5
 have hl5:=hx15.1
 clear hdt2
 have hw5:=hw.mono hx5
 obtain⟨v2,hsl,hv2⟩:=sl_hiI hw5 (n:=n) (by omega)
 rw[hpt]at hv2
 have hsl5:=hsl H5
 clear hsl
 have hdn:decide (((n+m:Nat):Int)=(n:Nat)+(m:Nat))=true:=decide_eq_true (by omega)
 (try simp only[ctlB])
 repeat' ((first|refine xSDg ?_|refine xODg rfl ?_);(try simp only[ctlB]))
 refine aw_hv_if (t:=true) (xEDg) (by simp(disch:=first|omega|(simp only[lenB];omega))only[evB,xBDc,Nat.reduceAdd,Nat.reduceBEq,Int.reduceToNat, *]) (by simp(disch:=first|omega|(simp only[lenB];omega))only[evB,xBDc,Nat.reduceAdd,Nat.reduceBEq,Int.reduceToNat, *];simp) (fun _=>⟨_,xEDg,?_⟩) (fun h=>by cases h)
 refine wpH_call0 (ints_eq hv2 (hu2.mono (hx3.trans (hx4.trans hx5))) (by omega) (by omega) rfl) ?_
 rintro r H6 ⟨rfl,rfl⟩
 (try simp only[ctlB])
 refine xCDg (fun h=>?_) (fun h=>?_)
 ·exfalso;simp at h
 clear h hdn hsl5
 have b1:=b2s_sl (hq.mono (hx4.trans hx5))
 have b2:=b2s_sl hq2
 have b3:=b2s_sl (hv.mono hx15)
 have b4:=ls_strEql (H:=H5) (a:=p) (b:=p)
 rw[beq_self_eq_true]at b4
 clear hw hw5 hv2 hu2 hq hq2 hv
 have hbound:((((decide ((p.length:Int)≤249)&&decide ((p.length:Int)>0))&&decide ((n:Int)≤(p.length:Int)+2)) || (decide ((p.length:Int)=0)&&decide ((n:Int)=0))) || (decide ((p.length:Int)>249)&&decide ((n:Int)≤(p.length:Int)+4)))=true:=by
  simp only[Bool.or_eq_true,Bool.and_eq_true,decide_eq_true_eq]
  obtain⟨k1,k2⟩:=hbd
  by_cases h0:p.length=0
  ·have:=k2 h0
   omega
  ·have:=k1 (by omega) (by omega)
   split at this<;>omega
 clear hbd
 (try simp only[ctlB])
 repeat' ((first|refine xSDg ?_|refine xODg rfl ?_);(try simp only[ctlB]))
 refine aw_hv_if (t:=true) (xEDg) (by simp(disch:=first|omega|(simp only[lenB];omega))only[evB,xBDc,Nat.reduceAdd,Nat.reduceBEq,Int.reduceToNat, *]) (by simp(disch:=first|omega|(simp only[lenB];omega))only[evB,xBDc,Nat.reduceAdd,Nat.reduceBEq,Int.reduceToNat, *];try rfl) (fun _=>⟨_,xEDg,?_⟩) (fun h=>by cases h)
 refine wpH_call0 (alive (by omega)) ?_
 rintro r H7 ⟨hx,rfl⟩
 (try simp only[ctlB])
 repeat' ((first|refine xSDg ?_|refine xODg rfl ?_);(try simp only[ctlB]))
 refine xRDg ?_
 rfl
end
end Go.Proofs.Ythnflhimcmdnbaa
