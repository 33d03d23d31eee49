/- Lemmas. -/
import Derived.Test.YtgpolmomghejoaaDoorM13
set_option linter.unusedVariables false
set_option linter.unusedSimpArgs false
set_option linter.unusedSectionVars false
namespace Go.Proofs.YtgpolmomghejoaaDoor
open Go.Abs
def cpx(f:FuncId):Option CF:=if f=45 then some ⟨1,0,[],.skip,.prim g45⟩ else cp f
theorem sub_cpx:Sub cp cpx:=fun f cf h=>by
 unfold cpx
 split
 ·rename_i e;subst e;cases h
 ·exact h
theorem compiledx:Compiled Tryd.prog cpx:=fun f cf h=>by
 unfold cpx at h
 split at h
 ·rename_i e;subst e;cases h;exact .inr ⟨g45,rfl,format_ok⟩
 ·exact compiled f cf h
theorem okAllx(base n:Nat):RunOK Tryd.prog base Tryd.prog.globals.size (run cpx n):=sound mixed compiledx base n
theorem fmtP{lo:Nat}{H:Heap}{v:Value}{N:Nat}(hv:IsN H v N)(hN:(limbs N).length≤512)(ht:H.get 0=some pow10V):Ev cpx lo 45 [v] H (fun r H'=>r=strV (fmtL N)∧H'=H):=
 ev_of_prim rfl rfl rfl (g45_of hv hN ht) ⟨rfl,rfl⟩
theorem xt7{lo:Nat}{H:Heap}{R:Value→Heap→Prop}{a0:Value}(h:wpS cpx lo bd7 (bodyQ cf7 R) [a0,undef,undef,undef,undef,undef,undef,undef,undef,undef,undef,undef,undef,undef] H):Ev cpx lo 7 [a0] H R:=ev_of_wp (cf:=cf7) rfl rfl rfl h
theorem xt9{lo:Nat}{H:Heap}{R:Value→Heap→Prop}{a0:Value}(h:wpS cpx lo bd9 (bodyQ cf9 R) [a0,undef,undef,undef,undef,undef,undef,undef,undef,undef,undef,undef] H):Ev cpx lo 9 [a0] H R:=ev_of_wp (cf:=cf9) rfl rfl rfl h
theorem xt10{lo:Nat}{H:Heap}{R:Value→Heap→Prop}{a0 a1:Value}(h:wpS cpx lo bd10 (bodyQ cf10 R) [a0,a1,undef,undef,undef,undef,undef,undef,undef,undef,undef,undef,undef,undef,undef,undef,undef,undef] H):Ev cpx lo 10 [a0,a1] H R:=ev_of_wp (cf:=cf10) rfl rfl rfl h
theorem xt11{lo:Nat}{H:Heap}{R:Value→Heap→Prop}{a0:Value}(h:wpS cpx lo bd11 (bodyQ cf11 R) [a0,undef,undef,undef,undef,undef,undef,undef,undef,undef,undef] H):Ev cpx lo 11 [a0] H R:=ev_of_wp (cf:=cf11) rfl rfl rfl h
theorem xt12{lo:Nat}{H:Heap}{R:Value→Heap→Prop}(h:wpS cpx lo bd12 (bodyQ cf12 R) [undef,undef,undef,undef,undef,undef,undef,undef,undef,undef,undef,undef,undef,undef,undef,undef,undef,undef,undef,undef,undef,undef,undef,undef,undef,undef,undef,undef,undef,undef,undef,undef,undef,undef,undef,undef,undef] H):Ev cpx lo 12 [] H R:=ev_of_wp (cf:=cf12) rfl rfl rfl h
theorem xt15{lo:Nat}{H:Heap}{R:Value→Heap→Prop}{a0:Value}(h:wpS cpx lo bd15 (bodyQ cf15 R) [a0,undef,undef,undef,undef,undef,undef,undef,undef,undef] H):Ev cpx lo 15 [a0] H R:=ev_of_wp (cf:=cf15) rfl rfl rfl h
theorem xt18{lo:Nat}{H:Heap}{R:Value→Heap→Prop}{a0:Value}(h:wpS cpx lo bd18 (bodyD cpx lo md18 8 rt18 cf18.res R) [a0,undef,undef,undef,undef,undef,undef,undef,undef,undef] H):Ev cpx lo 18 [a0] H R:=ev_of_dfr (cf:=cf18) rfl rfl rfl h
theorem xt23{lo:Nat}{H:Heap}{R:Value→Heap→Prop}{a0 a1:Value}(h:wpS cpx lo bd23 (bodyQ cf23 R) [a0,a1,undef,undef,undef,undef] H):Ev cpx lo 23 [a0,a1] H R:=ev_of_wp (cf:=cf23) rfl rfl rfl h
theorem xt26{lo:Nat}{H:Heap}{R:Value→Heap→Prop}{a0:Value}(h:wpS cpx lo bd26 (bodyQ cf26 R) [a0,undef,undef,undef,undef,undef,undef,undef,undef,undef,undef,undef,undef] H):Ev cpx lo 26 [a0] H R:=ev_of_wp (cf:=cf26) rfl rfl rfl h
def padN:Nat→Nat→List Nat
 | 0,_=>[]
 | m+1,r=>padN m (r/10)++[r%10]
theorem dec_step{N:Nat}(h:N≠0):dec N=dec (N/10)++[N%10]:=by
 have:=dec_snoc (a:=N/10) (b:=N%10) (Nat.mod_lt _ (by decide)) (by omega)
 rw[←this];congr 1;omega
theorem dec_pad{M:Nat}(hM:M≠0):∀(m r:Nat),r<10^m→dec (M*10^m+r)=dec M++padN m r
 | 0,r,h=>by
  have:r=0:=by simpa using h
  subst this;simp[padN]
 | m+1,r,h=>by
  have h1:r/10<10^m:=by rw[Nat.pow_succ]at h;omega
  have hp:M*10^(m+1)=(M*10^m)*10:=by rw[Nat.pow_succ,Nat.mul_assoc]
  have hne:M*10^(m+1)+r≠0:=by
   have:0<M*10^(m+1):=Nat.mul_pos (by omega) (Nat.pow_pos (by decide))
   omega
  rw[dec_step hne,show(M*10^(m+1)+r)/10=M*10^m+r/10 by omega,show(M*10^(m+1)+r)%10=r%10 by omega,dec_pad hM m _ h1,padN,List.append_assoc]
theorem dd_dec:∀(u:Nat),u≠0→Lib.decDigits u=strD (dec u):=by
 intro u
 induction u using Nat.strongRecOn with
 | _ u ih=>
  intro h
  rw[dec_step h,Lib.decDigits]
  by_cases h1:u<10
  ·rw[dif_pos h1,show u/10=0 by omega,show u%10=u by omega,dec_zero]
   rfl
  ·rw[dif_neg h1,ih (u/10) (by omega) (by omega)]
   simp[strD]
theorem pad_zero:∀m,strD (padN m 0)=List.replicate m 48
 | 0=>rfl
 | m+1=>by
  have ih:=pad_zero m
  rw[List.replicate_succ']
  simp only[padN,strD,List.map_append,Nat.zero_div,Nat.zero_mod]at ih ⊢
  rw[ih];rfl
theorem dd_pad:∀(m g:Nat),0<m→g<10^m→List.replicate (m-(Lib.decDigits g).length) 48++Lib.decDigits g=strD (padN m g)
 | m+1,g,_,h=>by
  rw[Lib.decDigits]
  by_cases h1:g<10
  ·rw[dif_pos h1,padN,show g/10=0 by omega,show g%10=g by omega]
   have:=pad_zero m
   simp only[strD,List.map_append]at this ⊢
   rw[this];rfl
  ·rw[dif_neg h1]
   have hm:0<m:=by
    refine Decidable.byContradiction fun hc=>?_
    have:m=0:=by omega
    subst this;omega
   have ih:=dd_pad m (g/10) hm (by rw[Nat.pow_succ]at h;omega)
   simp only[List.length_append,List.length_singleton,padN,strD,List.map_append]at ih ⊢
   rw[show m+1-((Lib.decDigits (g/10)).length+1)=m-(Lib.decDigits (g/10)).length by omega,←List.append_assoc,ih]
   rfl
theorem nine_eq{g:Nat}(h:g<1000000000):nine g=strD (padN 9 g):=dd_pad 9 g (by omega) (by omega)
theorem outF_shift{f g:Nat→Nat}(h:∀j,f (j+1)=g j)(n:Nat):∀k,k≤n→outF f (n+1) k=outF g n k
 | 0,_=>rfl
 | k+1,hk=>by
  simp only[outF]
  rw[outF_shift h n k (by omega)]
  rw[show n+1-1=(n-1)+1 by omega,h,show n-1+1-k=(n-1-k)+1 by omega,h]
theorem outF_eq:∀(N:Nat),N≠0→outF (fun j=>(digs 1000000000 N).getD j 0) (digs 1000000000 N).length (digs 1000000000 N).length=strD (dec N):=by
 intro N
 induction N using Nat.strongRecOn with
 | _ N ih=>
  intro h
  have hd:=digs_pos (B:=1000000000) (by omega) h
  by_cases h1:N<1000000000
  ·have e0:N/1000000000=0:=by omega
   have e1:N%1000000000=N:=by omega
   rw[hd,e0,e1,digs_zero]
   simp only[outF,List.length_singleton,List.nil_append,if_true]
   exact dd_dec N h
  ·have h2:N/1000000000≠0:=by omega
   have h3:N%1000000000<1000000000:=Nat.mod_lt _ (by omega)
   have ih:=ih (N/1000000000) (by omega) h2
   have hp:=digs_pos (B:=1000000000) (by omega) h2
   rw[hd]
   generalize hG:digs 1000000000 (N/1000000000)=G at *
   have hl:0<G.length:=by rw[hp];simp
   simp only[List.length_cons]
   have:=outF_shift (f:=fun j=>(N%1000000000::G).getD j 0) (g:=fun j=>G.getD j 0) (fun j=>rfl) G.length G.length (Nat.le_refl _)
   rw[outF,this,if_neg (by omega),ih,show G.length+1-1-G.length=0 by omega]
   simp only[List.getD_cons_zero]
   rw[nine_eq h3]
   have e:=dec_pad h2 9 (N%1000000000) (by omega)
   rw[show N/1000000000*10^9+N%1000000000=N by omega]at e
   rw[e];simp[strD]
theorem fmtL_eq{N:Nat}(h:N≠0):fmtL N=strD (dec N):=by rw[fmtL,if_neg h];exact outF_eq N h
set_option maxRecDepth 20000
def encU(b:UInt8):Value:=.int .u8 (b.toNat:Nat)
theorem wpH_appStr{cp:FuncId→Option CF}{A lo:Nat}{H:Heap}{v:Value}{b:Nat}{l m:List UInt8}{z:List Value}{R:Value→Heap→Prop}(hlo:lo≤H.length)(hA:A≤b)(hAH:A≤H.length)
  (ho:Own lo 1 H v b (l.map encU)) (hsz:l.length+m.length≤4294967296)
  (k:∀v' H' b',A≤b'→Own lo 1 H' v' b' ((l++m).map encU)→Keep b H H'→R v' H'):wpH cp lo (.appS z) [v,strV m] H R:=by
 have e0:hsem0 lo (.appS z) [v,strV m] H=appendSem lo 1 v (m.map encU) m.length H:=by
  simp only[hsem0,hsem,strV]
  rw[str_size];rfl
 simp only[wpH]
 rw[e0]
 by_cases hm:m=[]
 ·subst hm
  have kk:=k v H b hA (by simpa using ho) ⟨Nat.le_refl _,fun _ _ _=>rfl⟩
  obtain⟨hb,⟨rfl,_⟩|⟨n,hn,hn2,rfl,hg⟩⟩:=ho
  ·simp only[appendSem,List.length_nil,Nat.add_zero,Nat.le_refl,if_true];exact kk
  ·simp only[appendSem,List.length_nil,List.map_nil,Nat.add_zero,Nat.le_refl,if_true,or_true]
   rw[put_get hg hb (by simp only[Nat.zero_add,List.length_nil,Nat.add_zero];omega)]
   have:putCells (l.map encU) (0+n*1) []=l.map encU:=by simp[putCells]
   rw[this,set_get_self hg];exact kk
 ·have hm0:0<m.length:=List.length_pos_iff.2 hm
  obtain⟨hb,⟨rfl,hl⟩|⟨n,hn,hn2,rfl,hg⟩⟩:=ho
  ·have hl0:l=[]:=by simpa using hl
   subst hl0
   have h1:¬ (0+m.length≤0):=by omega
   have h2:¬ (mostNeed<0+m.length):=by unfold mostNeed;simp at hsz;omega
   simp only[appendSem,h1,h2,if_false,if_true]
   refine k _ _ H.length hAH ⟨hlo,.inr ⟨m.length,hm0,by simp,rfl,by rw[get_app0];simp⟩⟩ ⟨by simp,fun i hi _=>get_app_lt hi⟩
  ·have hnl:n=l.length:=by simpa using hn2
   subst hnl
   have h1:¬ (l.length+m.length≤l.length):=by omega
   have h2:¬ (mostNeed<l.length+m.length):=by unfold mostNeed;omega
   have hc:H.cells b 0 (l.length*1)=some (l.map encU):=by
    rw[cells_get hg (by simp),Nat.mul_one,List.drop_zero]
    rw[show l.length=(l.map encU).length by simp,List.take_length]
   simp only[appendSem,h1,h2,if_false,hb,and_self,if_true,hc,Option.map_some]
   refine k _ _ H.length hAH ⟨hlo,.inr ⟨l.length+m.length,by omega,by simp,rfl,?_⟩⟩ ⟨by simp,fun i hi hne=>?_⟩
   ·have:(H.set b none).length=H.length:=by simp
    rw[←this,get_app0,List.map_append]
   ·rw[get_app_lt (by simpa using hi),get_set_ne (fun e=>hne e.symm)]
theorem bytesOf_U:∀l:List UInt8,bytesOf (l.map encU)=some l
 | []=>rfl
 | b::l=>by
  have ih:=bytesOf_U l
  have e:bytesOf ((b::l).map encU)=(bytesOf (l.map encU)).map (UInt8.ofNat ((b.toNat:Nat):Int).toNat::·):=rfl
  rw[e,ih]
  simp
theorem ls_b2sU{lo:Nat}{H:Heap}{v:Value}{b:Nat}{l:List UInt8}(h:Own lo 1 H v b (l.map encU)):lsem .b2s [v] H=some (strV l):=by
 obtain⟨_,⟨rfl,hl⟩|⟨n,hn,hn2,rfl,hg⟩⟩:=h
 ·have:l=[]:=by simpa using hl
  subst this;rfl
 ·have hnl:n=l.length:=by simpa using hn2
  subst hnl
  simp only[lsem]
  rw[cells_get hg (by simp)]
  simp only[List.drop_zero,Option.bind_some]
  rw[show l.length=(l.map encU).length by simp,List.take_length,bytesOf_U]
  rfl
theorem sl_subG{α:Type}{enc:α→Value}{G:Heap}{v:Value}{l:List α}{a b:Nat}{x y:Int}(h:Sl enc G v l)(hx:x=a)(hy:y=b)(hab:a≤b)(hb:b≤l.length):∃r,(∀H',lsem (.sl 1 true true false) [v,.int .i64 x,.int .i64 y] H'=some r)∧Sl enc G r ((l.drop a).take (b-a)):=by
 subst hx hy
 have hlen:((l.drop a).take (b-a)).length=b-a:=by simp;omega
 rcases h with ⟨rfl,rfl⟩|⟨bb,o,sp,cap,xs,rfl,h1,h2,h3,h4,h5⟩
 ·simp only[List.length_nil]at hb
  obtain rfl:b=0:=by omega
  obtain rfl:a=0:=by omega
  exact⟨_,fun H'=>by rw[ls_sln,bd_lohi (by omega) (by omega) (by omega)];rfl,.inl ⟨rfl,rfl⟩⟩
 ·have key:∀o',(o'=o+a∨b-a=0∧o'=o)→∀sp',sp'=sp→Sl enc G (.slice (some ⟨bb,o',sp'⟩) (b-a) (cap-a)) ((l.drop a).take (b-a)):=by
   intro o' ho' sp' hsp'
   subst hsp'
   refine .inr ⟨bb,o',sp',cap-a,xs,by rw[hlen],h1,?_,by rw[hlen];omega,h4,by rw[hlen];omega⟩
   rw[hlen]
   rcases ho' with rfl|⟨e,rfl⟩
   ·have:=congrArg (fun z=>(z.drop a).take (b-a)) h2
    rw[List.map_take,List.map_drop,←this,List.drop_take,List.drop_drop,List.take_take,Nat.min_eq_left (by omega)]
   ·rw[e];simp
  rcases h4 with rfl|rfl
  ·refine⟨_,fun H'=>by rw[ls_slx,bd_lohi (by omega) (by omega) (by omega)];rfl,?_⟩
   simp only[Int.toNat_natCast]
   refine key _ ?_ _ rfl
   split
   ·exact .inr ⟨by omega,rfl⟩
   ·exact .inl (by omega)
  ·refine⟨_,fun H'=>by rw[ls_sli,bd_lohi (by omega) (by omega) (by omega)];rfl,?_⟩
   simp only[Int.toNat_natCast]
   exact key _ (.inl (by omega)) _ rfl
theorem okPart_iff{b:Bool}{p:List Nat}:okPart b p=true↔p.getD 0 0≠0∧(dec (numB 900 p)).getD 0 0=1∧2≤(dec (numB 900 p)).length∧(dec (numB 900 p)).length≤45∧(b=true∨(dec (numB 900 p)).length=45):=by
 simp only[okPart,Bool.and_eq_true,decide_eq_true_eq,Bool.or_eq_true]
theorem okPart_no{b:Bool}{p:List Nat}(h:¬ (p.getD 0 0≠0∧(dec (numB 900 p)).getD 0 0=1∧2≤(dec (numB 900 p)).length∧(dec (numB 900 p)).length≤45∧(b=true∨(dec (numB 900 p)).length=45))):okPart b p=false:=by
 rw[←Bool.not_eq_true,okPart_iff];exact h
theorem rdigP{lo:Nat}{H:Heap}{v:Value}{l:List Nat}(hlo:lo≤H.length)(hl:SlN H v l)(hb:l.length≤8192)(hd:∀d ∈ l,d<900)(ht:H.get 0=some pow10V) :
  Ev cpx lo 26 [v] H (fun r H'=>Ext H H'∧r=match fromN l with|some t=>.tuple #[strV t,.bool true]|none=>.tuple #[strV [],.bool false]):=by
 have hl0:=hl
 obtain⟨ad,c0,rfl⟩:=hl.len
 refine xt26 ?_;unfold bd26 cf26;simp only[kB,ctlB]
 repeat' ((first|refine xSSg ?_|refine xOSg rfl ?_);(try simp only[ctlB]))
 refine aw_loop' (fun m S H'=>Ext H H'∧∃(a:Nat) (D:List UInt8) (w:Value) (b:Nat),(l.length≤m+a∧(a≤l.length→m+a≤l.length))∧(fromN l=(fromN (l.drop a)).map (D++·)∨False)∧H.length≤b∧Own lo 1 H' w b (D.map encU)∧D.length≤45*a∧a≤8300∧(∃(z:Nat→Value),S=[.slice ad l.length c0,z 1,z 2,w,.int .i64 (a:Nat),z 5,z 6,z 7,z 8,z 9,z 10,z 11,z 12])) l.length ?_ ?_
 ·exact⟨Ext.refl _,0,[],_,H.length,by omega,.inl (by simp),Nat.le_refl _,Own.nil hlo,by simp,by omega,exZSb rfl⟩
 rintro m S H' ⟨hx,a,D,w,b,hm,hs,hbb,ho,hD,ha,z,rfl⟩
 have hlen:=hx.1
 by_cases hi:a<l.length
 ·obtain⟨e,he⟩:∃e,min (a+15) l.length=e:=⟨_,rfl⟩
  have he2:a<e∧e≤l.length∧e≤a+15:=by omega
  have emin:lsem (.minmax false) [.int .i64 ((a:Int)+15),.int .i64 (l.length:Nat)] H'=some (.int .i64 (e:Nat)):=by
   simp only[lsem,List.foldlM_cons,List.foldlM_nil,minInt,Bool.false_eq_true,if_false]
   by_cases h:(l.length:Int)<(a:Int)+15
   ·rw[if_pos h];simp;omega
   ·rw[if_neg h];simp;omega
  obtain⟨b0,o0,sp0,cap0,xs0,e0,hg0,hx0,hle0⟩:=(hl.mono hx).els 0 (by omega)
  cases e0
  have hxa:=hx0 a hi
  obtain⟨p,hp⟩:∃p,(l.drop a).take 15=p:=⟨_,rfl⟩
  have hp2:(l.drop a).take (e-a)=p:=by
   rw[←hp]
   rcases Nat.le_total (a+15) l.length with h|h
   ·congr 1;omega
   ·rw[List.take_of_length_le (by simp;omega),List.take_of_length_le (by simp;omega)]
  have hpl:p.length≤15∧0<p.length:=by
   have:=congrArg List.length hp
   simp at this;omega
  have hp0:p.getD 0 0=l.getD a 0:=by
   rw[←hp,List.getD_eq_getElem?_getD,List.getD_eq_getElem?_getD,List.getElem?_take,if_pos (by omega),List.getElem?_drop,Nat.add_zero]
  have hpd:∀d ∈ p,d<900:=fun d hd'=>hd d (by rw[←hp]at hd';exact List.mem_of_mem_drop (List.mem_of_mem_take hd'))
  have hf:=fromN_pos (l:=l.drop a) (by intro e;have:=congrArg List.length e;simp at this;omega)
  rw[hp,List.drop_drop]at hf
  have hf2:(l.drop a).length=l.length-a:=by simp
  rw[hf2]at hf
  have hfail:∀{b:Bool},okPart b p=false→b=decide (l.length-a≤15)→fromN l=none:=by
   intro b h1 h2
   rw[hs.resolve_right id,hf,←h2,h1];rfl
  obtain⟨sv,hsv,hsl⟩:=sl_subG (hl.mono hx) (a:=a) (b:=e) rfl rfl (by omega) (by omega)
  rw[hp2]at hsl
  have hrs:=hs.resolve_right id
  clear hs hp hp2
  (try simp only[ctlB])
  refine xCSg (fun h=>?_) (fun h=>?_)
  ·clear h
   (try simp only[ctlB])
   repeat' ((first|refine xSSg ?_|refine xOSg rfl ?_);(try simp only[ctlB]))
   refine xCSg (fun h=>?_) (fun h=>?_)
   ·have hz:okPart (decide (l.length-a≤15)) p=false:=by
     have:p.getD 0 0=0:=by rw[hp0];simp only[decide_eq_true_eq]at h;omega
     exact okPart_no fun hc=>hc.1 this
    have hN:=hfail hz rfl
    clear h hfail hf hrs
    (try simp only[ctlB])
    repeat' ((first|refine xSSg ?_|refine xOSg rfl ?_);(try simp only[ctlB]))
    refine xRSg ?_
    rw[hN]
    exact⟨hx,rfl⟩
   have hnz:p.getD 0 0≠0:=by rw[hp0];simp only[decide_eq_false_iff_not]at h;omega
   clear h
   have hN0:numB 900 p≠0:=by
    intro e
    have:=b900_of hpd (by
     intro e2
     rw[List.getD_eq_getElem?_getD,←List.head?_eq_getElem?,e2]at hnz
     exact hnz rfl)
    rw[e,b900_zero]at this
    rw[←this]at hpl;simp at hpl
   have hNl:(limbs (numB 900 p)).length≤512:=by
    have h1:=numB_lt hpd p.length (Nat.le_refl _)
    rw[List.take_length]at h1
    have h2:(900:Nat)^p.length≤900^15:=Nat.pow_le_pow_right (by decide) hpl.1
    have h3:(900:Nat)^15≤W32^5:=by decide
    have:=limbs_len (k:=5) (N:=numB 900 p) (by omega)
    omega
   (try simp only[ctlB])
   repeat' ((first|refine xSSg ?_|refine xOSg rfl ?_);(try simp only[ctlB]))
   refine xHSg ?_
   refine wpH_call0 ((fromdP (B:=900) (l:=p) (by omega) hsl (by omega) (by omega) hpd).sub sub_cpx) ?_
   rintro r H2 ⟨hx2,q,rfl,m2,rfl,hq⟩
   have hlen2:=hx2.1
   clear hsv hsl
   obtain⟨ad2,c2,rfl⟩:=hq.len
   have hq1:=hq
   (try simp only[ctlB])
   repeat' ((first|refine xSSg ?_|refine xOSg rfl ?_);(try simp only[ctlB]))
   have hx3:Ext H2 (H2++[some [.bool false,.slice ad2 (limbs (numB 900 p)).length c2]]):=Ext.app _ _
   have hx03:=(hx.trans hx2).trans hx3
   refine xHSg ?_
   refine wpH_call0 (fmtP (N:=numB 900 p) ⟨_,rfl,hq1.mono hx3⟩ hNl (hx03.get ht)) ?_
   rintro r H3 ⟨rfl,rfl⟩
   rw[fmtL_eq hN0]
   clear hq hq1
   have hT0:dec (numB 900 p)≠[]:=fun e=>hN0 (dec_nil.1 e)
   have hdl:=dec_lt (numB 900 p)
   have hok:=@okPart_iff (decide (l.length-a≤15)) p
   have hno:=@okPart_no (decide (l.length-a≤15)) p
   have hpart:partS p=(strD (dec (numB 900 p))).drop 1:=by simp only[partS,strD,List.map_drop]
   have hXl:(strD (dec (numB 900 p))).length=(dec (numB 900 p)).length:=by simp[strD]
   have hX0:((strD (dec (numB 900 p))).getD 0 0).toNat=48+(dec (numB 900 p)).getD 0 0:=by
    cases hT:dec (numB 900 p)with
    | nil=>exact absurd hT hT0
    | cons d T=>
     have:=hdl d (by rw[hT];simp)
     simp only[strD,List.map_cons,List.getD_cons_zero,UInt8.toNat_ofNat']
     omega
   have hTl:=List.length_pos_iff.2 hT0
   generalize strD (dec (numB 900 p))=X at *
   generalize (dec (numB 900 p)).length=TL at *
   generalize (dec (numB 900 p)).getD 0 0=T0 at *
   clear hT0 hdl
   have hXl1:X.length≤TL∧TL≤X.length:=by omega
   clear hXl
   generalize hX0':(X.getD 0 0).toNat=x0 at *
   have hx0':x0≤48+T0∧48+T0≤x0:=by omega
   clear hX0
   (try simp only[ctlB])
   repeat' ((first|refine xSSg ?_|refine xOSg rfl ?_);(try simp only[ctlB]))
   refine xCSg (fun h=>?_) (fun h=>?_)
   ·have hN:=hfail (hno (by
     simp only[Bool.or_eq_true,decide_eq_true_eq]at h
     omega)) rfl
    clear h hfail hf hrs hno hok
    (try simp only[ctlB])
    repeat' ((first|refine xSSg ?_|refine xOSg rfl ?_);(try simp only[ctlB]))
    refine xRSg ?_
    rw[hN]
    exact⟨hx03,rfl⟩
   have hc1:2≤TL∧TL≤45∧T0=1:=by
    simp only[Bool.or_eq_false_iff,decide_eq_false_iff_not]at h
    omega
   clear h
   (try simp only[ctlB])
   repeat' ((first|refine xSSg ?_|refine xOSg rfl ?_);(try simp only[ctlB]))
   refine xCSg (fun h=>?_) (fun h=>?_)
   ·have hN:=hfail (hno (by
     simp only[Bool.and_eq_true,decide_eq_true_eq,Bool.not_eq_true',decide_eq_false_iff_not]at h ⊢
     omega)) rfl
    clear h hfail hf hrs hno hok
    (try simp only[ctlB])
    repeat' ((first|refine xSSg ?_|refine xOSg rfl ?_);(try simp only[ctlB]))
    refine xRSg ?_
    rw[hN]
    exact⟨hx03,rfl⟩
   have hyes:=hok.2 ⟨hnz,hc1.2.2,hc1.1,hc1.2.1,by
    simp only[Bool.and_eq_false_iff,decide_eq_false_iff_not,Bool.not_eq_false',decide_eq_true_eq]at h ⊢
    omega⟩
   clear h hok hno hfail
   rw[if_pos hyes]at hf
   clear hyes
   have es:∀G,lsem (.slS true false) [strV X,.int .i64 1] G=some (strV (X.drop 1)):=fun G=>ls_slSa (a:=1) (by omega)
   (try simp only[ctlB])
   refine xHSg ?_
   refine wpH_appStr (A:=H.length) (by simp;omega) hbb (by simp;omega) ((ho.mono hx2).mono hx3) (m:=X.drop 1) (by simp;omega) ?_
   intro v' H4 b' hb4 ho4 hk4
   have hx4:=hk4.ext hx03 hbb
   clear ho emin
   (try simp only[ctlB])
   repeat' ((first|refine xSSg ?_|refine xOSg rfl ?_);(try simp only[ctlB]))
   simp only[loopQ_n]
   refine⟨l.length-(a+15),by omega,hx4,a+15,D++X.drop 1,v',b',by omega,.inl ?_,hb4,ho4,by simp;omega,by omega,exZSb (by first|rfl|(simp only[Int.natCast_add,Int.natCast_one];rfl)|simp only[Int.natCast_add,Int.natCast_one])⟩
   rw[hrs,hf,hpart]
   cases fromN (l.drop (a+15))<;>simp
  ·simp only[decide_eq_false_iff_not]at h;omega
 ·have hfin:=hs.resolve_right id
  rw[List.drop_eq_nil_of_le (by omega),fromN_nil]at hfin
  (try simp only[ctlB])
  refine xCSg (fun h=>?_) (fun h=>?_)
  ·simp only[decide_eq_true_eq]at h;omega
  clear h
  have eb:=ls_b2sU ho
  clear hs
  (try simp only[ctlB])
  repeat' ((first|refine xSSg ?_|refine xOSg rfl ?_);(try simp only[ctlB]))
  refine xRSg ?_
  rw[hfin]
  simp only[Option.map_some,List.append_nil]
  exact⟨hx,rfl⟩
def okW(w:Int):Bool:=decide (0≤w)&&decide (w<900)
def fromR(l:List Int):List UInt8×Int:=
 if 8192<l.length then([],4) else if l.all okW then
  match fromN (l.map Int.toNat)with
  | some t=>(t,0)
  | none=>([],22)
 else([],3)
theorem sl_nat{H:Heap}{v:Value}{l:List Int}(h:SlI H v l)(hw:∀w ∈ l,0≤w):SlN H v (l.map Int.toNat):=by
 have e:(l.map Int.toNat).map encN=l.map (Value.int .i64):=by
  rw[List.map_map]
  refine List.map_congr_left fun w hm=>?_
  have:=hw w hm
  simp only[Function.comp,encN]
  congr 1;omega
 rcases h with ⟨rfl,rfl⟩|⟨b,o,sp,cap,xs,h1,h2,h3,h4,h5,h6⟩
 ·exact .inl ⟨rfl,rfl⟩
 ·exact .inr ⟨b,o,sp,cap,xs,by simpa using h1,h2,by rw[e];simpa using h3,by simpa using h4,h5,by simpa using h6⟩
theorem not_ok{l:List Int}{i:Nat}(hi:i<l.length)(h:okW (l.getD i 0)=false):l.all okW=false:=by
 rw[←Bool.not_eq_true,List.all_eq_true]
 intro hc
 have:=hc (l.getD i 0) (by rw[List.getD_eq_getElem?_getD,List.getElem?_eq_getElem hi];exact List.getElem_mem hi)
 rw[h]at this;cases this
theorem all_ok{l:List Int}(h:∀j,j<l.length→okW (l.getD j 0)=true):l.all okW=true:=by
 rw[List.all_eq_true]
 intro w hw
 obtain⟨j,hj,rfl⟩:=List.getElem_of_mem hw
 have:=h j hj
 rwa [List.getD_eq_getElem?_getD,List.getElem?_eq_getElem hj]at this
theorem fnumP{lo:Nat}{H:Heap}{v:Value}{l:List Int}(hlo:lo≤H.length)(hl:SlI H v l)(ht:H.get 0=some pow10V) :
  Ev cpx lo 15 [v] H (fun r H'=>Ext H H'∧r=.tuple #[strV (fromR l).1,.int .i64 (fromR l).2]):=by
 have hl0:=hl
 obtain⟨ad,c0,rfl⟩:=hl.len
 unfold fromR
 refine xt15 ?_;unfold bd15 cf15;simp only[kB,ctlB]
 repeat' ((first|refine xSSg ?_|refine xOSg rfl ?_);(try simp only[ctlB]))
 refine xCSg (fun h=>?_) (fun h=>?_)
 ·have hc:8192<l.length:=by simp only[decide_eq_true_eq]at h;omega
  clear h
  (try simp only[ctlB])
  repeat' ((first|refine xSSg ?_|refine xOSg rfl ?_);(try simp only[ctlB]))
  refine xRSg ?_
  rw[if_pos hc]
  exact⟨Ext.refl _,rfl⟩
 have hc:l.length≤8192:=by simp only[decide_eq_false_iff_not]at h;omega
 clear h
 rw[if_neg (by omega)]
 (try simp only[ctlB])
 repeat' ((first|refine xSSg ?_|refine xOSg rfl ?_);(try simp only[ctlB]))
 refine aw_for (fun i S H'=>H=H'∧(∀j,j<i→okW (l.getD j 0)=true)∧∃(z:Nat→Value),S=[.slice ad l.length c0,z 1,z 2,z 3,z 4,z 5,.slice ad l.length c0,.int .i64 (l.length:Nat),.int .i64 (i:Nat),z 9]) l.length ?_ ?_ ?_ ?_
 ·exact⟨rfl,fun j hj=>by omega,exZSb rfl⟩
 ·rintro i S H' hi ⟨rfl,-,z,rfl⟩
  exact⟨_,xESg,by simp⟩
 ·rintro i S H' hi ⟨rfl,hall,z,rfl⟩
  obtain⟨b0,o0,sp0,cap0,xs0,e0,hg0,hx0,hle0⟩:=hl.els 0 (by omega)
  cases e0
  have hxa:=hx0 i hi
  (try simp only[ctlB])
  repeat' ((first|refine xSSg ?_|refine xOSg rfl ?_);(try simp only[ctlB]))
  refine xCSg (fun h=>?_) (fun h=>?_)
  ·have hno:okW (l.getD i 0)=false:=by
    simp only[Bool.or_eq_true,decide_eq_true_eq]at h
    simp only[okW,Bool.and_eq_false_iff,decide_eq_false_iff_not];omega
   clear h
   (try simp only[ctlB])
   repeat' ((first|refine xSSg ?_|refine xOSg rfl ?_);(try simp only[ctlB]))
   refine xRSg ?_
   rw[not_ok hi hno]
   exact⟨Ext.refl _,rfl⟩
  ·have hyes:okW (l.getD i 0)=true:=by
    simp only[Bool.or_eq_false_iff,decide_eq_false_iff_not]at h
    simp only[okW,Bool.and_eq_true,decide_eq_true_eq];omega
   clear h
   (try simp only[ctlB])
   repeat' ((first|refine xSSg ?_|refine xOSg rfl ?_);(try simp only[ctlB]))
   refine⟨by trivial,fun j hj=>?_,exZSb (by first|rfl|(simp only[Int.natCast_add,Int.natCast_one];rfl)|simp only[Int.natCast_add,Int.natCast_one])⟩
   by_cases e:j=i
   ·subst e;exact hyes
   ·exact hall j (by omega)
 ·rintro S H' ⟨rfl,hall,z,rfl⟩
  have hall:=all_ok hall
  rw[hall]
  have hmem:=List.all_eq_true.1 hall
  have hr:∀w ∈ l,0≤w∧w<900:=fun w hw=>by
   have:=hmem w hw
   simpa only[okW,Bool.and_eq_true,decide_eq_true_eq]using this
  have hln:(l.map Int.toNat).length=l.length:=by simp
  have hsn:=sl_nat hl0 (fun w hw=>(hr w hw).1)
  clear hall hmem
  (try simp only[ctlB])
  repeat' ((first|refine xSSg ?_|refine xOSg rfl ?_);(try simp only[ctlB]))
  refine xHSg ?_
  refine wpH_call0 (rdigP (l:=l.map Int.toNat) (by omega) hsn (by omega) (by
   intro d hd
   obtain⟨w,hw,rfl⟩:=List.mem_map.1 hd
   have:=hr w hw;omega) ht) ?_
  rintro r H2 ⟨hx2,rfl⟩
  cases fromN (l.map Int.toNat)with
  | none=>
   (try simp only[ctlB])
   repeat' ((first|refine xSSg ?_|refine xOSg rfl ?_);(try simp only[ctlB]))
   refine xCSg (fun h=>?_) (fun h=>?_)
   ·clear h
    (try simp only[ctlB])
    repeat' ((first|refine xSSg ?_|refine xOSg rfl ?_);(try simp only[ctlB]))
    refine xRSg ?_
    exact⟨hx2,rfl⟩
   ·simp at h
  | some t=>
   (try simp only[ctlB])
   repeat' ((first|refine xSSg ?_|refine xOSg rfl ?_);(try simp only[ctlB]))
   refine xCSg (fun h=>?_) (fun h=>?_)
   ·simp at h
   ·clear h
    (try simp only[ctlB])
    repeat' ((first|refine xSSg ?_|refine xOSg rfl ?_);(try simp only[ctlB]))
    refine xRSg ?_
    exact⟨hx2,rfl⟩
end Go.Proofs.YtgpolmomghejoaaDoor
