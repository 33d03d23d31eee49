/- QR blocks: Decode of the program. QR blocks: what can be corrected, and what is detected (plain law). QR blocks: the laws' helpers same, hello and exampleHolds. QR blocks: Split of the reference, and the law Splits. QR blocks: the law Splits. -/
import Derived.Test.YtkeagffmmhllcaaGreatPD21
set_option linter.unusedVariables false
set_option linter.unusedSimpArgs false
set_option linter.unusedSectionVars false
namespace Go.Proofs.YtkeagffmmhllcaaGreat
open Go.Abs Go.RS
set_option linter.unusedSimpArgs false
set_option linter.unusedVariables false
set_option maxRecDepth 20000
def chg(wl rl:List Int)(i:Nat):Nat:=((List.range i).filter fun k=>decide (rl.getD k 0≠wl.getD k 0)).length
theorem chg_succ(wl rl:List Int)(i:Nat):chg wl rl (i+1)=chg wl rl i+if rl.getD i 0≠wl.getD i 0 then 1 else 0:=by
 unfold chg
 rw[List.range_succ,List.filter_append,List.length_append]
 congr 1
 by_cases h:rl.getD i 0≠wl.getD i 0
 ·rw[if_pos h,List.filter_cons,if_pos (by simpa using h)];rfl
 ·rw[if_neg h,List.filter_cons,if_neg (by simpa using h)];rfl
theorem chg_le(wl rl:List Int)(i:Nat):chg wl rl i≤i:=by
 unfold chg;exact Nat.le_trans (List.length_filter_le _ _) (by simp)
theorem wv_at(b:Bk)(W:Nat→List (El F5)){i:Nat}(h:i<b.all):(b.wv W).getD i 0=(((co (W (b.at i).1) (b.at i).2).val:Nat):Int):=by
 unfold Bk.wv
 rw[List.getD_eq_getElem?_getD,List.getElem?_map,List.getElem?_eq_getElem (by rw[b.pl_len];exact h),b.at_eq h];rfl
def tup3(v:Value)(n e:Int):Value:=.tuple #[v,.int .i64 n,.int .i64 e]
def DecIs(b:Bk)(wl:List Int)(el:List Bool)(H:Heap)(r:Value):Prop:=
 (wl.length≠b.all∨(el.length≠0∧el.length≠wl.length)→r=tup3 nl 0 7) ∧
 (¬ (wl.length≠b.all∨(el.length≠0∧el.length≠wl.length))→¬ Rd b wl (fun i=>el.getD i false)→r=tup3 nl 0 3) ∧
 (¬ (wl.length≠b.all∨(el.length≠0∧el.length≠wl.length))→Rd b wl (fun i=>el.getD i false)→¬ (∀x,x<b.n→OkX b wl (fun i=>el.getD i false) x)→r=tup3 nl 0 17) ∧
 (¬ (wl.length≠b.all∨(el.length≠0∧el.length≠wl.length))→Rd b wl (fun i=>el.getD i false)→(∀x,x<b.n→OkX b wl (fun i=>el.getD i false) x)→∃vd,r=tup3 vd (chg wl (b.wv (fxX b wl (fun i=>el.getD i false))) b.all:Nat) 0∧SlI H vd (b.dat (fxX b wl (fun i=>el.getD i false)) b.n))
section
variable {lo:Nat}{H:Heap}{v l:Int}
theorem decP_bad{vw ve:Value}(hlo:lo≤H.length)(hno:¬ Vl v l):Ev cp lo 9 [vw,ve,.int .i64 v,.int .i64 l] H (fun r H'=>Ext H H'∧r=tup3 nl 0 (eVl v)):=by
 have hne:=eVl_ne (v:=v)
 refine st9 ?_;unfold bd9 cf9;simp only[kB,ctlB]
 repeat' ((first|refine xSQi ?_|refine xOQi rfl ?_);(try simp only[ctlB]))
 refine xHQi ?_
 refine wpH_call0 (placeP_bad (v:=v) (l:=l) hlo hno) ?_
 rintro r H1 ⟨hx1,rfl⟩
 have hl1:=hx1.1
 generalize eVl v=e at *
 (try simp only[ctlB])
 repeat' ((first|refine xSQi ?_|refine xOQi rfl ?_);(try simp only[ctlB]))
 refine xCQi (fun h=>?_) (fun h=>?_)
 case refine_2=>exfalso;simp at h<;>omega
 clear h
 (try simp only[ctlB])
 repeat' ((first|refine xSQi ?_|refine xOQi rfl ?_);(try simp only[ctlB]))
 refine xRQi ?_
 exact⟨hx1,rfl⟩
set_option maxHeartbeats 1000000 in
theorem decB{b:Bk}{aw ae ap:Option Addr}{cw ce cq:Nat}{wl:List Int}{el:List Bool}{S:List Value}{R:Value→Heap→Prop}(hS:∃(z:Nat→Value),S=[.slice aw b.all cw,.slice ae b.all ce,.int .i64 v,.int .i64 l,z 4,z 5,z 6,.slice ap b.all cq,z 8,z 9,z 10,z 11,z 12,z 13,z 14,z 15,z 16,z 17,z 18,z 19,z 20,z 21,z 22,z 23,z 24,z 25,z 26,z 27,z 28,z 29,z 30])(hb:b.Ok)(hw:SlI H (.slice aw b.all cw) wl)(he:SlB H (.slice ae b.all ce) el)(hp:SlPt H (.slice ap b.all cq) b.plI)(hwl:wl.length=b.all)(hel:el.length=b.all)(hlo:lo≤H.length)(hpos:0<b.all)
  (hst:∀{H:Heap},lo≤H.length→Ev cp lo 14 [.int .i64 v,.int .i64 l] H (fun v H'=>Ext H H'∧v=.tuple #[b.val,.int .i64 0]))
  (hR:∀v H',Ext H H'→(¬ Rd b wl (fun i=>el.getD i false)→v=tup3 nl 0 3)→(Rd b wl (fun i=>el.getD i false)→¬ (∀x,x<b.n→OkX b wl (fun i=>el.getD i false) x)→v=tup3 nl 0 17) →
   (Rd b wl (fun i=>el.getD i false)→(∀x,x<b.n→OkX b wl (fun i=>el.getD i false) x)→∃vd,v=tup3 vd (chg wl (b.wv (fxX b wl (fun i=>el.getD i false))) b.all:Nat) 0∧SlI H' vd (b.dat (fxX b wl (fun i=>el.getD i false)) b.n))→R v H') :
  wpS cp lo (tl 5 bd9) (bodyQ cf9 R) S H:=by
 obtain⟨z,rfl⟩:=hS
 unfold bd9 cf9
 simp only[tl,kB,ctlB]
 have h7:=hb.all
 have hpll:b.plI.length=b.all:=by unfold Bk.plI;rw[List.length_map,b.pl_len]
 repeat' ((first|refine xSQi ?_|refine xOQi rfl ?_);(try simp only[ctlB]))
 refine aw_for (fun k S H'=>H=H'∧(∀i,i<k→el.getD i false=false→0≤wl.getD i 0∧wl.getD i 0≤255)∧∃(z:Nat→Value),S=[.slice aw b.all cw,.slice ae b.all ce,.int .i64 v,.int .i64 l,z 4,z 5,z 6,.slice ap b.all cq,z 8,z 9,z 10,z 11,z 12,z 13,z 14,z 15,z 16,z 17,z 18,.slice aw b.all cw,.int .i64 (b.all:Nat),.int .i64 (k:Nat),z 22,z 23,z 24,z 25,z 26,z 27,z 28,z 29,z 30]) b.all ?_ ?_ ?_ ?_
 ·exact⟨rfl,by omega,exZGc rfl⟩
 ·rintro k S H' hk ⟨rfl,-,z,rfl⟩
  exact⟨_,xEQi,by simp⟩
 ·rintro k S H' hk ⟨rfl,hin,z,rfl⟩
  obtain⟨xb,xo,xsp,xc,xs,e1,g1,f1,_⟩:=hw.els 0 (by omega)
  obtain⟨yb,yo,ysp,yc,ys,e2,g2,f2,_⟩:=he.els false (by omega)
  rw[hwl]at e1 f1
  rw[hel]at e2 f2
  cases e1
  cases e2
  have k1:=f1 k hk
  have k2:=f2 k hk
  have hin':(el.getD k false=false→0≤wl.getD k 0∧wl.getD k 0≤255)→∀i,i<k+1→el.getD i false=false→0≤wl.getD i 0∧wl.getD i 0≤255:=fun h i hi=>by
   by_cases e:i=k
   ·rw[e];exact h
   ·exact hin i (by omega)
  have hbad:el.getD k false=false→¬ (0≤wl.getD k 0∧wl.getD k 0≤255)→¬ Rd b wl (fun i=>el.getD i false):=fun h h2 h3=>h2 (h3 k hk h)
  clear f1 f2 hin
  generalize wl.getD k 0=x at *
  generalize el.getD k false=t at *
  (try simp only[ctlB])
  repeat' ((first|refine xSQi ?_|refine xOQi rfl ?_);(try simp only[ctlB]))
  cases t with
  | false=>
   by_cases hx:0≤x∧x≤255
   ·have hin':=hin' fun _=>hx
    clear hbad
    refine xCQi (fun h=>?_) (fun h=>?_)
    ·exfalso;simp at h<;>omega
    clear h k1 k2
    (try simp only[ctlB])
    repeat' ((first|refine xSQi ?_|refine xOQi rfl ?_);(try simp only[ctlB]))
    exact⟨by trivial,hin',exZGc (by first|rfl|(simp only[Int.natCast_add,Int.natCast_one];rfl)|simp only[Int.natCast_add,Int.natCast_one])⟩
   ·have hbad:=hbad rfl hx
    clear hin'
    refine xCQi (fun h=>?_) (fun h=>?_)
    case refine_2=>exfalso;simp at h<;>omega
    clear h
    (try simp only[ctlB])
    repeat' ((first|refine xSQi ?_|refine xOQi rfl ?_);(try simp only[ctlB]))
    refine xRQi ?_
    exact hR _ _ (Ext.refl _) (fun _=>rfl) (fun h=>absurd h hbad) (fun h=>absurd h hbad)
  | true=>
   have hin':=hin' fun h=>by cases h
   clear hbad
   refine xCQi (fun h=>?_) (fun h=>?_)
   ·exfalso;simp at h
   clear h k1 k2
   (try simp only[ctlB])
   repeat' ((first|refine xSQi ?_|refine xOQi rfl ?_);(try simp only[ctlB]))
   exact⟨by trivial,hin',exZGc (by first|rfl|(simp only[Int.natCast_add,Int.natCast_one];rfl)|simp only[Int.natCast_add,Int.natCast_one])⟩
 ·rintro S H' ⟨rfl,hin,z,rfl⟩
  have hrd:Rd b wl (fun i=>el.getD i false):=hin
  clear hin
  (try simp only[ctlB])
  refine xHQi ?_
  refine wpH_call0 (hst hlo) ?_
  rintro r H2 ⟨hx2,rfl⟩
  have hl2:=hx2.1
  clear hst
  unfold Bk.val
  (try simp only[ctlB])
  repeat' ((first|refine xSQi ?_|refine xOQi rfl ?_);(try simp only[ctlB]))
  generalize hG:H2++_=G at *
  obtain⟨g0,hxG⟩:=box_facts hG
  clear hG
  have hxG:=hx2.trans hxG
  have hlG:=hxG.1
  refine xHQi ?_
  refine wpH_call0 (correctP (b:=b) (wl:=wl) (el:=el) hb (hw.mono hxG) (he.mono hxG) (hp.mono hxG) hwl hel hrd (by omega)) ?_
  rintro r H3 ⟨hx3,hcor⟩
  have hx3:=hxG.trans hx3
  have hl3:=hx3.1
  by_cases hok:∀x,x<b.n→OkX b wl (fun i=>el.getD i false) x
  case neg=>
   rw[hcor.2 hok]
   clear hcor
   (try simp only[ctlB])
   repeat' ((first|refine xSQi ?_|refine xOQi rfl ?_);(try simp only[ctlB]))
   refine xCQi (fun h=>?_) (fun h=>?_)
   case refine_2=>exfalso;simp at h
   clear h
   (try simp only[ctlB])
   repeat' ((first|refine xSQi ?_|refine xOQi rfl ?_);(try simp only[ctlB]))
   refine xRQi ?_
   exact hR _ _ hx3 (fun h=>absurd hrd h) (fun _ _=>rfl) (fun _ h=>absurd h hok)
  obtain⟨vd,vb,vs,rfl,hvd,hvs,hvl,hvat⟩:=hcor.1 hok
  clear hcor g0
  have hfl:=fun x=>fxX_len b wl (fun i=>el.getD i false) x
  have hbn:=hb.n
  have h6:=hb.len
  have hR:=fun(v:Value) (H':Heap) h1 h2=>hR v H' h1 (fun h=>absurd hrd h) (fun _ h=>absurd hok h) (fun _ _=>h2)
  have hwv:=fun i (h:i<b.all)=>wv_at b (fxX b wl (fun i=>el.getD i false)) h
  clear hok hrd
  generalize fxX b wl (fun i=>el.getD i false)=W at *
  (try simp only[ctlB])
  repeat' ((first|refine xSQi ?_|refine xOQi rfl ?_);(try simp only[ctlB]))
  refine xCQi (fun h=>?_) (fun h=>?_)
  ·exfalso;simp at h
  clear h
  (try simp only[ctlB])
  repeat' ((first|refine xSQi ?_|refine xOQi rfl ?_);(try simp only[ctlB]))
  have hbn0:0<b.n:=by
   have:=(b.at_in hpos).1;omega
  obtain⟨vbb,vbs,vbc,evb,gvb⟩:=hvs.els (by omega)
  rw[hvl]at evb
  subst evb
  refine aw_for (fun k S H'=>Ext H3 H'∧∃(z:Nat→Value),S=[.slice aw b.all cw,.slice ae b.all ce,.int .i64 v,.int .i64 l,z 4,z 5,z 6,.slice ap b.all cq,z 8,z 9,z 10,z 11,vd,.slice (some ⟨vbb,0,vbs⟩) b.n vbc,.int .i64 (chg wl (b.wv W) k:Nat),z 15,z 16,z 17,z 18,z 19,z 20,z 21,z 22,z 23,z 24,z 25,.slice ap b.all cq,.int .i64 (b.all:Nat),.int .i64 (k:Nat),z 29,z 30]) b.all ?_ ?_ ?_ ?_
  ·exact⟨Ext.refl _,exZGc rfl⟩
  ·rintro k S H' hk ⟨-,z,rfl⟩
   exact⟨_,xEQi,by simp⟩
  ·rintro k S H4 hk ⟨hx4,z,rfl⟩
   have hx04:=hx3.trans hx4
   have hl4:=hx04.1
   obtain⟨hX,hY⟩:=b.at_in hk
   have hpt:=b.plI_at hk
   have hwk:=hwv k hk
   have hcs:=chg_succ wl (b.wv W) k
   have hcl:=chg_le wl (b.wv W) k
   rw[hwk]at hcs
   obtain⟨pb,psp,pc,ep,gp⟩:=(hp.mono hx04).els (by omega)
   obtain⟨xb,xo,xsp,xc,xs,ew,gw,fw,_⟩:=(hw.mono hx04).els 0 (by omega)
   have hp2:=ptL_two (l:=b.plI) (i:=k) (by omega)
   have hpL:=ptL_len b.plI
   rw[hpt]at hp2
   rw[hpll]at ep
   rw[hwl]at ew fw
   cases ep
   cases ew
   have fwk:=fw k hk
   have gvb:=hx4.get gvb
   have hvX:=vs_at (vs:=vs) (i:=(b.at k).1) (by omega)
   have hWl:(valI (W (b.at k).1)).length=b.len (b.at k).1+b.ck:=by rw[valI_len,hfl]
   obtain⟨yb,yo,ysp,yc,ys,ey,gy,fy,_⟩:=((hvat _ hX).mono hx4).els 0 (by omega)
   rw[ey]at hvX
   have fyk:=fy (b.at k).2 (by omega)
   have hva:(valI (W (b.at k).1)).getD (b.at k).2 0=(((co (W (b.at k).1) (b.at k).2).val:Nat):Int):=by
    unfold valI co
    rw[List.getD_eq_getElem?_getD,List.getElem?_map,List.getElem?_eq_getElem (by rw[hfl];exact hY),List.getD_eq_getElem?_getD,List.getElem?_eq_getElem (by rw[hfl];exact hY)];rfl
   rw[hva]at fyk
   have q1:=Heap.get_lt gp
   have q2:=Heap.get_lt gw
   have q3:=Heap.get_lt gvb
   have q4:=Heap.get_lt gy
   clear fw fy hva hwk hvat hfl hwv ey hpt
   generalize ptL b.plI=PL at *
   generalize (co (W (b.at k).1) (b.at k).2).val=c1 at *
   generalize (b.at k).1=X at *
   generalize (b.at k).2=Y at *
   generalize (valI (W X)).length=wlen at *
   generalize wl.getD k 0=c2 at *
   replace hcs:False∨_:=.inr hcs
   (try simp only[ctlB])
   repeat' ((first|refine xSQi ?_|refine xOQi rfl ?_);(try simp only[ctlB]))
   by_cases hne:((c1:Nat):Int)≠c2
   ·have hcs:=hcs.resolve_left id
    rw[if_pos hne]at hcs
    refine xCQi (fun h=>?_) (fun h=>?_)
    case refine_2=>exfalso;simp at h<;>omega
    clear h
    (try simp only[ctlB])
    repeat' ((first|refine xSQi ?_|refine xOQi rfl ?_);(try simp only[ctlB]))
    refine⟨hx4.trans (Ext.app _ _),?_⟩
    rw[hcs]
    exact exZGc (by first|rfl|(simp only[Int.natCast_add,Int.natCast_one];rfl)|simp only[Int.natCast_add,Int.natCast_one])
   ·have hcs:=hcs.resolve_left id
    rw[if_neg hne,Nat.add_zero]at hcs
    refine xCQi (fun h=>?_) (fun h=>?_)
    ·exfalso;simp at h<;>omega
    clear h
    (try simp only[ctlB])
    repeat' ((first|refine xSQi ?_|refine xOQi rfl ?_);(try simp only[ctlB]))
    refine⟨hx4.trans (Ext.app _ _),?_⟩
    rw[hcs]
    exact exZGc (by first|rfl|(simp only[Int.natCast_add,Int.natCast_one];rfl)|simp only[Int.natCast_add,Int.natCast_one])
  ·rintro S H4 ⟨hx4,z,rfl⟩
   (try simp only[ctlB])
   repeat' ((first|refine xSQi ?_|refine xOQi rfl ?_);(try simp only[ctlB]))
   refine xRQi ?_
   exact hR _ _ (hx3.trans hx4) ⟨_,rfl,hvd.mono hx4⟩
set_option maxHeartbeats 1000000 in
theorem decP{vw ve:Value}{wl:List Int}{el:List Bool}{i:Nat}(hw:SlI H vw wl)(he:SlB H ve el)(hwl:wl.length≤1000000000)(hel:el.length≤1000000000)(hi:i<160)(ha:[Value.int .i64 v,Value.int .i64 l]=arg i)(hlo:lo≤H.length):Ev cp lo 9 [vw,ve,.int .i64 v,.int .i64 l] H (fun r H'=>Ext H H'∧DecIs (bk i) wl el H' r):=by
 have hb:=bk_ok hi
 have hpl:=placeP hi ha hlo
 have hst:∀{H:Heap},lo≤H.length→_:=fun {H} h=>stP_vl (H:=H) hi ha h
 clear ha
 have hw0:=hw
 have he0:=he
 obtain⟨aw,cw,rfl⟩:=hw.len
 obtain⟨ae,ce,rfl⟩:=he.len
 refine st9 ?_;unfold bd9 cf9;simp only[kB,ctlB]
 repeat' ((first|refine xSQi ?_|refine xOQi rfl ?_);(try simp only[ctlB]))
 refine xHQi ?_
 refine wpH_call0 hpl ?_
 clear hpl
 generalize bk i=b at *
 rintro r H1 ⟨hx1,vp,rfl,hp⟩
 have h1:=hb.sh
 have h2:=hb.n
 have h7:=hb.all
 have hbn:b.sh≤b.n:=by unfold Bk.n;omega
 have hpos:0<b.all:=by
  have:=Nat.mul_pos (n:=b.ck) (m:=b.n) hb.ck (by omega)
  have:b.all=b.cap+b.n*b.ck:=rfl
  have:=Nat.mul_comm b.ck b.n
  omega
 have hpll:b.plI.length=b.all:=by unfold Bk.plI;rw[List.length_map,b.pl_len]
 have hl1:=hx1.1
 have hp0:=hp
 obtain⟨ap,cq,e0⟩:=hp.len
 rw[hpll]at e0
 subst e0
 clear hp
 (try simp only[ctlB])
 repeat' ((first|refine xSQi ?_|refine xOQi rfl ?_);(try simp only[ctlB]))
 refine xCQi (fun h=>?_) (fun h=>?_)
 ·exfalso;simp at h
 clear h
 by_cases hlen:wl.length≠b.all∨(el.length≠0∧el.length≠wl.length)
 ·(try simp only[ctlB])
  refine xCQi (fun h=>?_) (fun h=>?_)
  case refine_2=>exfalso;simp only[Bool.or_eq_true,Bool.and_eq_true,Bool.or_eq_false_iff,Bool.and_eq_false_iff,decide_eq_true_eq,decide_eq_false_iff_not]at h;omega
  clear h
  (try simp only[ctlB])
  repeat' ((first|refine xSQi ?_|refine xOQi rfl ?_);(try simp only[ctlB]))
  refine xRQi ?_
  exact⟨hx1,fun _=>rfl,fun h=>absurd hlen h,fun h=>absurd hlen h,fun h=>absurd hlen h⟩
 have hl2:wl.length=b.all∧(el.length=0∨el.length=b.all):=by omega
 have hno:∀{P:Prop},wl.length≠b.all∨(el.length≠0∧el.length≠wl.length)→P:=fun h=>absurd h hlen
 (try simp only[ctlB])
 refine xCQi (fun h=>?_) (fun h=>?_)
 ·exfalso;simp only[Bool.or_eq_true,Bool.and_eq_true,Bool.or_eq_false_iff,Bool.and_eq_false_iff,decide_eq_true_eq,decide_eq_false_iff_not]at h;omega
 clear h
 have hw1:SlI H1 (.slice aw b.all cw) wl:=by rw[←hl2.1];exact hw0.mono hx1
 have hst:=fun {H:Heap} h=>hst (H:=H) h
 have fin:∀(v:Value) (H':Heap),Ext H1 H'→(¬ Rd b wl (fun i=>el.getD i false)→v=tup3 nl 0 3)→(Rd b wl (fun i=>el.getD i false)→¬ (∀x,x<b.n→OkX b wl (fun i=>el.getD i false) x)→v=tup3 nl 0 17) →
   (Rd b wl (fun i=>el.getD i false)→(∀x,x<b.n→OkX b wl (fun i=>el.getD i false) x)→∃vd,v=tup3 vd (chg wl (b.wv (fxX b wl (fun i=>el.getD i false))) b.all:Nat) 0∧SlI H' vd (b.dat (fxX b wl (fun i=>el.getD i false)) b.n))→Ext H H'∧DecIs b wl el H' v:=
  fun v H' hx a1 a2 a3=>⟨hx1.trans hx,fun h=>absurd h hlen,fun _ h=>a1 h,fun _ h h'=>a2 h h',fun _ h h'=>a3 h h'⟩
 have he1:=he0.mono hx1
 by_cases h0:el.length=0
 ·have:el=[]:=List.length_eq_zero_iff.1 h0
  subst this
  clear he0 hw0 hlen hno he1
  have hll:=hl2.1
  clear hl2
  simp only[hll]
  (try simp only[ctlB])
  refine xCQi (fun h=>?_) (fun h=>?_)
  case refine_2=>exfalso;simp at h
  clear h
  rw[aw_seq]
  refine xOQi rfl ?_
  rw[seqQ_n]
  refine xSQi ?_
  rw[seqQ_n]
  generalize hG:H1++_=G at *
  obtain⟨g0,hxG⟩:=box_facts hG
  clear hG
  have hgd:(fun i=>(List.replicate b.all false).getD i false)=(fun i=>([]:List Bool).getD i false):=by
   funext i
   rw[List.getD_eq_getElem?_getD,List.getElem?_replicate]
   split<;>rfl
  refine decB (b:=b) (wl:=wl) (el:=List.replicate b.all false) ?hS hb (hw1.mono hxG) (Sl.whole g0 (by simp)) (hp0.mono hxG) hll (by simp) (by have:=hxG.1;omega) hpos hst ?_
  case hS=>exact exZGc rfl
  rw[hgd]
  intro v H' a0 a1 a2 a3
  exact fin v H' (hxG.trans a0) a1 a2 a3
 ·have hel2:el.length=b.all:=by omega
  have hll:=hl2.1
  clear hno hlen hl2
  (try simp only[ctlB])
  refine xCQi (fun h=>?_) (fun h=>?_)
  ·exfalso;simp at h<;>omega
  clear h
  rw[hel2]at he1
  rw[aw_skip,seqQ_n]
  simp only[hel2,hll]
  refine decB (b:=b) (wl:=wl) (el:=el) ?hT hb hw1 he1 hp0 hll hel2 (by omega) hpos hst fin
  case hT=>exact exZGc rfl
end
end Go.Proofs.YtkeagffmmhllcaaGreat
namespace Go.Proofs.YtkeagffmmhllcaaGreat
open Go.Abs Go.RS
set_option linter.unusedSimpArgs false
set_option linter.unusedVariables false
def cntX(b:Bk)(x:Nat)(φ:Nat→Bool):Nat:=((List.range b.all).filter fun i=>decide ((b.at i).1=x)&&φ i).length
theorem cntX_sel{b:Bk}{x:Nat}(hx:x<b.n)(φ:Nat→Bool):(sel (fun k=>φ (b.pos x k)) (b.len x+b.ck)).length=cntX b x φ:=by
 unfold cntX sel
 have hp:(((List.range (b.len x+b.ck)).filter fun k=>φ (b.pos x k)).map (b.pos x)).Perm ((List.range b.all).filter fun i=>decide ((b.at i).1=x)&&φ i):=by
  refine(List.perm_ext_iff_of_nodup ?_ (List.nodup_range.sublist List.filter_sublist)).2 fun i=>?_
  ·have h1:((List.range (b.len x+b.ck)).filter fun k=>φ (b.pos x k)).Nodup:=List.nodup_range.sublist List.filter_sublist
   refine List.pairwise_map.2 (List.Pairwise.imp_of_mem (fun {k j} hk hj h e=>h ?_) h1)
   have hk:=List.mem_range.1 (List.mem_filter.1 hk).1
   have hj:=List.mem_range.1 (List.mem_filter.1 hj).1
   have e1:=b.at_pos hx hk
   rw[e,b.at_pos hx hj]at e1
   exact(Prod.mk.inj e1).2.symm
  ·rw[List.mem_map,List.mem_filter,List.mem_range]
   constructor
   ·rintro⟨k,hk,rfl⟩
    obtain⟨h1,h2⟩:=List.mem_filter.1 hk
    have h1:=List.mem_range.1 h1
    exact⟨b.pos_lt hx h1,by rw[b.at_pos hx h1];simp[h2]⟩
   ·rintro⟨h1,h2⟩
    simp only[Bool.and_eq_true,decide_eq_true_eq]at h2
    have hin:=(b.at_in h1).2
    rw[h2.1]at hin
    have hp:=b.pos_at h1
    rw[h2.1]at hp
    refine⟨(b.at i).2,List.mem_filter.2 ⟨List.mem_range.2 hin,?_⟩,hp⟩
    rw[hp];exact h2.2
 have:=hp.length_eq
 rw[List.length_map]at this
 exact this
def costX(b:Bk)(wl rl:List Int)(er:Nat→Bool)(x:Nat):Nat:=2*cntX b x (fun i=>!er i&&decide (wl.getD i 0≠rl.getD i 0))+cntX b x er
theorem eB_ne{n:Int}{c:El F5}(h0:0≤n)(h1:n≤255):eB 285 n.toNat≠c↔n≠((c.val:Nat):Int):=by
 constructor
 ·rintro h rfl
  apply h
  refine El.ext ?_
  have:c.val<256:=c.lt
  show(((c.val:Nat):Int).toNat)%256=c.val
  omega
 ·rintro h rfl
  apply h
  show n=((n.toNat%256:Nat):Int)
  omega
theorem sel_cost{b:Bk}{wl:List Int}{er:Nat→Bool}{W:Nat→List (El F5)}{x:Nat}(hx:x<b.n)(hrd:Rd b wl er):2*(sel (fun k=>!erI (losI b er b.all x) k&&decide (co (wdE b wl er x) k≠co (W x) k)) (wdE b wl er x).length).length+sC (erI (losI b er b.all x)) (wdE b wl er x).length=costX b wl (b.wv W) er x:=by
 unfold costX sC
 rw[wdE_len]
 congr 1
 ·congr 1
  rw[←cntX_sel hx]
  congr 1
  refine sel_congr fun k hk=>?_
  have hp:=b.pos_lt hx hk
  rw[losI_er hx hk,wdE_at hx hk,wv_at b W hp,b.at_pos hx hk]
  cases he:er (b.pos x k)with
  | true=>rfl
  | false=>
   obtain⟨h0,h1⟩:=hrd _ hp he
   simp only[Bool.not_false,Bool.true_and,if_true]
   exact decide_eq_decide.2 (eB_ne h0 h1)
 ·rw[←cntX_sel hx]
  congr 1
  exact sel_congr fun k hk=>losI_er hx hk
theorem g5ne:g5≠0:=gn_ne gn285
theorem corrX{b:Bk}{wl:List Int}{er:Nat→Bool}{W:Nat→List (El F5)}{x:Nat}(hb:b.Ok)(hx:x<b.n)(hrd:Rd b wl er)(hW:(W x).length=b.len x+b.ck)(hcw:isCw g5 b.ck 0 (W x))(hc:costX b wl (b.wv W) er x≤b.ck):OkX b wl er x∧fxX b wl er x=W x:=by
 rw[←sel_cost hx hrd]at hc
 have h6:=hb.len
 have:=b.len_le x
 exact near_found g5ne (gn_ord gn285) (by rw[wdE_len];show _≤255;omega) (by rw[wdE_len,hW]) hcw hc
end Go.Proofs.YtkeagffmmhllcaaGreat
namespace Go.Proofs.YtkeagffmmhllcaaGreat
open Go.Abs Go.RS
set_option linter.unusedSimpArgs false
set_option linter.unusedVariables false
set_option maxRecDepth 20000
theorem ceq2(k:IntKind)(a b a' b':Int):cellsEq [1,1] [.int k a,.int k b] [.int k a',.int k b']=some (decide (a=a')&&decide (b=b')):=by
 have hb:∀x y:Int,(x==y)=decide (x=y):=fun x y=>by rw[Bool.eq_iff_iff];simp
 simp[cellsEq,cellEq,hb]
set_option linter.defProp false in
def xBQq:=And.intro @Int.cast_ofNat_Int (And.intro @ite_self.{1} @ceq2)
theorem xEQq{P:Prop}(h:P:=by simp(disch:=first|omega|(simp only[lenB];omega))only[evB,xBQq,Nat.reduceAdd,Nat.reduceMul,Nat.reduceBEq,Int.reduceToNat, *];rfl):P:=h
theorem xSQq{cp:FuncId→Option CF}{lo:Nat}{l:List (Nat×E)}{chk:List E}{Q:Post}{S:List Value}{H:Heap}{vs:List (Nat×Value)}{S':List Value}(k:Q .normal S' H)(h:evSets S H l=some vs:=by exact xEQq)(hc:evChk S H chk=true:=by simp(disch:=first|omega|(simp only[lenB];omega))only[evB,xBQq,Nat.reduceAdd,Nat.reduceMul,Nat.reduceBEq,Int.reduceToNat, *])(hS:setAll S vs=S':=by exact xEQq):wpS cp lo (.sets l chk) Q S H:=aw_sets h hc hS k
theorem xHQq{cp:FuncId→Option CF}{lo:Nat}{l:List (Nat×E)}{chk:List E}{Q:Post}{S:List Value}{H:Heap}{vs:List (Nat×Value)}{dst:Option Nat}{o:HOp}{a:E}{xs:List Value}(k:wpH cp lo o xs H fun v H'=>Q .normal (setD (setAll S vs) dst v) H')(h:evSets S H l=some vs:=by exact xEQq)(hc:evChk S H chk=true:=by simp(disch:=first|omega|(simp only[lenB];omega))only[evB,xBQq,Nat.reduceAdd,Nat.reduceMul,Nat.reduceBEq,Int.reduceToNat, *])(ha:ev S H a=some xs:=by exact xEQq):wpS cp lo (.hv l chk [] dst o a) Q S H:=aw_hv h hc ha k
theorem xOQq{cp:FuncId→Option CF}{lo:Nat}{l:List (Nat×E)}{chk:List E}{Q:Post}{S:List Value}{H:Heap}{vs:List (Nat×Value)}{dst:Option Nat}{o:HOp}{a:E}{xs:List Value}{S':List Value}{H':Heap}{v:Value}(hcall:o.isCall=false)(k:Q .normal S' H')(h:evSets S H l=some vs:=by exact xEQq)(hc:evChk S H chk=true:=by simp(disch:=first|omega|(simp only[lenB];omega))only[evB,xBQq,Nat.reduceAdd,Nat.reduceMul,Nat.reduceBEq,Int.reduceToNat, *])(ha:ev S H a=some xs:=by exact xEQq)(ho:hsem0 lo o xs H=some (v,H'):=by exact xEQq)(hS:setD (setAll S vs) dst v=S':=by exact xEQq):wpS cp lo (.hv l chk [] dst o a) Q S H:=aw_op hcall h hc ha ho hS k
theorem xCQq{cp:FuncId→Option CF}{lo:Nat}{c:E}{a b:Stm}{Q:Post}{S:List Value}{H:Heap}{t:Bool}(k1:t=true→wpS cp lo a Q S H)(k2:t=false→wpS cp lo b Q S H)(h:ev1 S H c=some (.bool t):=by exact xEQq):wpS cp lo (.cond c a b) Q S H:=aw_cond h k1 k2
theorem xTQq{cp:FuncId→Option CF}{lo:Nat}{l:List (Nat×E)}{chk:List E}{Q:Post}{S:List Value}{H:Heap}{vs:List (Nat×Value)}{dst:Option Nat}{o:HOp}{a:E}{xs:List Value}{pc:PC}(k:wpH cp lo o xs H fun v H'=>Q .normal (setD (setAll S vs) dst v) H')(h:evSets S H l=some vs:=by exact xEQq)(hc:evChk S H chk=true:=by simp(disch:=first|omega|(simp only[lenB];omega))only[evB,xBQq,Nat.reduceAdd,Nat.reduceMul,Nat.reduceBEq,Int.reduceToNat, *])(hp:holds S H pc=some true:=by simp(disch:=first|omega|(simp only[lenB];omega))only[evB,xBQq,Nat.reduceAdd,Nat.reduceMul,Nat.reduceBEq,Int.reduceToNat, *];try rfl)(ha:ev S H a=some xs:=by exact xEQq):wpS cp lo (.hv l chk pc dst o a) Q S H:=aw_hvT h hc hp ha k
theorem xUQq{cp:FuncId→Option CF}{lo:Nat}{l:List (Nat×E)}{chk:List E}{Q:Post}{S:List Value}{H:Heap}{vs:List (Nat×Value)}{dst:Option Nat}{o:HOp}{a:E}{xs:List Value}{pc:PC}{S':List Value}{H':Heap}{v:Value}(hcall:o.isCall=false)(k:Q .normal S' H')(h:evSets S H l=some vs:=by exact xEQq)(hc:evChk S H chk=true:=by simp(disch:=first|omega|(simp only[lenB];omega))only[evB,xBQq,Nat.reduceAdd,Nat.reduceMul,Nat.reduceBEq,Int.reduceToNat, *])(hp:holds S H pc=some true:=by simp(disch:=first|omega|(simp only[lenB];omega))only[evB,xBQq,Nat.reduceAdd,Nat.reduceMul,Nat.reduceBEq,Int.reduceToNat, *];try rfl)(ha:ev S H a=some xs:=by exact xEQq)(ho:hsem0 lo o xs H=some (v,H'):=by exact xEQq)(hS:setD (setAll S vs) dst v=S':=by exact xEQq):wpS cp lo (.hv l chk pc dst o a) Q S H:=aw_opT hcall h hc hp ha ho hS k
theorem xRQq{cf:CF}{R:Value→Heap→Prop}{S:List Value}{H:Heap}{vs:List Value}(k:R (resultOf vs) H)(h:evList S H cf.res=some vs:=by exact xEQq):bodyQ cf R .ret S H:=body_ret h k
theorem same{lo:Nat}{H:Heap}{va vb:Value}{a b:List Int}(ha:SlI H va a)(hb:SlI H vb b)(hsm:a.length≤1000000000)(hbm:b.length≤1000000000):Ev cp lo 8 [va,vb] H (fun v H'=>H'=H∧v=.bool (decide (a=b))):=by
 have ha0:=ha
 have hb0:=hb
 obtain⟨ada,ca,rfl⟩:=ha.len
 obtain⟨adb,cb,rfl⟩:=hb.len
 refine st8 ?_;unfold bd8 cf8;simp only[kB,ctlB]
 repeat' ((first|refine xSQq ?_|refine xOQq rfl ?_);(try simp only[ctlB]))
 refine xCQq (fun h=>?_) (fun h=>?_)
 ·have hne:¬ a=b:=by
   rintro rfl;simp at h
  clear h
  (try simp only[ctlB])
  repeat' ((first|refine xSQq ?_|refine xOQq rfl ?_);(try simp only[ctlB]))
  refine xRQq ?_
  exact⟨rfl,by simp[resultOf,hne]⟩
 have hlen:a.length≤b.length∧b.length≤a.length:=by simp at h;omega
 clear h
 (try simp only[ctlB])
 repeat' ((first|refine xSQq ?_|refine xOQq rfl ?_);(try simp only[ctlB]))
 refine aw_for (fun i S H'=>H=H'∧(∀j,j<i→a.getD j 0=b.getD j 0)∧S=[.slice ada a.length ca,.slice adb b.length cb,.bool false,.int .i64 (i:Nat)]) a.length ?_ ?_ ?_ ?_
 ·exact⟨rfl,by omega,rfl⟩
 ·rintro i S H' hi ⟨rfl,-,rfl⟩
  exact⟨_,xEQq,by simp⟩
 ·rintro i S H' hi ⟨rfl,hall,rfl⟩
  obtain⟨xb,xo,xsp,xc,xs,e1,g1,f1,l1⟩:=ha0.els 0 (by omega)
  obtain⟨yb,yo,ysp,yc,ys,e2,g2,f2,l2⟩:=hb0.els 0 (by omega)
  cases e1
  cases e2
  have k1:=f1 i hi
  have k2:=f2 i (by omega)
  clear f1 f2
  (try simp only[ctlB])
  refine xCQq (fun h=>?_) (fun h=>?_)
  ·have hne:¬ a=b:=by
    rintro rfl;simp at h
   clear h
   (try simp only[ctlB])
   repeat' ((first|refine xSQq ?_|refine xOQq rfl ?_);(try simp only[ctlB]))
   refine xRQq ?_
   exact⟨rfl,by simp[resultOf,hne]⟩
  ·have he:a.getD i 0=b.getD i 0:=by simpa using h
   clear h k1 k2
   (try simp only[ctlB])
   repeat' ((first|refine xSQq ?_|refine xOQq rfl ?_);(try simp only[ctlB]))
   refine⟨by trivial,fun j hj=>?_,(by first|rfl|(simp only[Int.natCast_add,Int.natCast_one];rfl)|simp only[Int.natCast_add,Int.natCast_one])⟩
   by_cases e:j=i
   ·subst e;exact he
   ·exact hall j (by omega)
 ·rintro S H' ⟨rfl,hall,rfl⟩
  have hab:a=b:=by
   apply List.ext_getElem (by omega)
   intro i h1 h2
   have:=hall i h1
   simpa[List.getD_eq_getElem?_getD,List.getElem?_eq_getElem h1,List.getElem?_eq_getElem h2]using this
  (try simp only[ctlB])
  repeat' ((first|refine xSQq ?_|refine xOQq rfl ?_);(try simp only[ctlB]))
  refine xRQq ?_
  exact⟨rfl,by simp[resultOf,hab]⟩
theorem same_eq{lo:Nat}{H:Heap}{va vb:Value}{a b:List Int}(ha:SlI H va a)(hb:SlI H vb b)(hsm:a.length≤1000000000)(hbm:b.length≤1000000000)(h:a=b):Ev cp lo 8 [va,vb] H (fun v H'=>H=H'∧v=.bool true):=by
 have:=same (lo:=lo) ha hb hsm hbm
 rw[decide_eq_true h]at this
 exact this.mono fun v H' h=>⟨h.1.symm,h.2⟩
def helloN:List Nat:=[32,91,11,120,209,114,220,77,67,64,236,17,236,17,236,17]
def helloE:List (El F5):=helloN.map (eB 285)
def helloI:List Int:=[32,91,11,120,209,114,220,77,67,64,236,17,236,17,236,17]
def chkI:List Int:=[196,35,39,119,235,215,231,226,93,23]
def wordE:List (El F5):=(helloN++[196,35,39,119,235,215,231,226,93,23]).map (eB 285)
theorem hello_val:valI helloE=helloI:=by decide +kernel
theorem word_cw:isCw g5 10 0 wordE:=cwB_ok bf285 (by decide +kernel)
def b1:Bk:=⟨1,0,16,10⟩
theorem bk1:bk 1=b1:=by kernel_rfl
theorem bk18:(bk 18).plI.length=134∧(bk 18).plI.getD 4 (0,0)=(0,1)∧(bk 18).plI.getD 60 (0,0)=(2,15)∧(bk 18).plI.getD 61 (0,0)=(3,15)∧(bk 18).plI.getD 62 (0,0)=(0,15):=by decide +kernel
theorem word_enc:IsEnc g5 10 0 helloE wordE:=⟨rfl,fun i hi=>by
 have hi:i<16:=hi
 unfold co wordE helloE
 rw[List.map_append,List.getD_eq_getElem?_getD,List.getElem?_append_left (by rw[List.length_map];exact hi),List.getD_eq_getElem?_getD],word_cw⟩
def wordI:List Int:=helloI++chkI
theorem b1_pl:b1.pl=(List.range 26).map fun k=>(0,k):=by decide +kernel
theorem wv1{W:Nat→List (El F5)}(h:W 0=wordE):b1.wv W=wordI:=by
 unfold Bk.wv
 rw[b1_pl,List.map_map]
 have e:(fun p:Nat×Nat=>(((co (W p.1) p.2).val:Nat):Int)) ∘ (fun k=>(0,k))=fun k=>(((co wordE k).val:Nat):Int):=by
  funext k;simp only[Function.comp,h]
 rw[e]
 decide +kernel
theorem blk1:blk b1 helloE 0=helloE:=rfl
theorem w1:b1.W helloE 0=wordE:=by
 have hc:CdOK F5 10 0:=cdok5 (by decide) (by decide)
 exact(encW_of hc (by rw[blk1];exact word_enc)).symm
def wl1:List Int:=wordI.set 3 0
theorem rd1:Rd b1 wl1 fun i=>([]:List Bool).getD i false:=by
 intro i hi _
 have:∀i,i<26→0≤wl1.getD i 0∧wl1.getD i 0≤255:=by decide
 exact this i hi
theorem ok1:∀x,x<1→OkX b1 wl1 (fun i=>([]:List Bool).getD i false) x∧fxX b1 wl1 (fun i=>([]:List Bool).getD i false) x=wordE:=by
 intro x hx
 obtain rfl:x=0:=by omega
 have hb:b1.Ok:=bk1▸bk_ok (i:=1) (by decide)
 have:=corrX (W:=fun _=>wordE) hb (x:=0) (by decide) rd1 rfl word_cw (by rw[wv1 rfl];decide +kernel)
 exact this
theorem chg1:chg wl1 wordI 26=1:=by decide +kernel
theorem dat1{W:Nat→List (El F5)}(h:W 0=wordE):b1.dat W 1=helloI:=by
 unfold Bk.dat
 have:(List.range 1).flatMap (fun x=>valI ((W x).take (b1.len x)))=valI ((W 0).take 16):=by
  simp[List.range_succ];rfl
 rw[this,h]
 decide +kernel
section
variable {lo:Nat}{H:Heap}
theorem helloP(hlo:lo≤H.length):Ev cp lo 11 [] H (fun v H'=>Ext H H'∧SlI H' v helloI):=by
 refine st11 ?_;unfold bd11 cf11;simp only[kB,ctlB]
 repeat' ((first|refine xSQq ?_|refine xOQq rfl ?_);(try simp only[ctlB]))
 refine xRQq ?_
 refine⟨Ext.app _ _,Sl.whole (b:=H.length) get_app0 rfl⟩
set_option maxHeartbeats 1000000 in
theorem exH(hlo:lo≤H.length):Ev cp lo 5 [] H (fun v H'=>Ext H H'∧v=.bool true):=by
 refine st5 ?_;unfold bd5 cf5;simp only[kB,ctlB]
 repeat' ((first|refine xSQq ?_|refine xOQq rfl ?_);(try simp only[ctlB]))
 refine xHQq ?_
 refine wpH_call0 (helloP hlo) ?_
 rintro v H1 ⟨hx1,hv1⟩
 have hl1:=hx1.1
 (try simp only[ctlB])
 refine xHQq ?_
 refine wpH_call0 (encP (v:=1) (l:=2) (i:=1) hv1 (by decide) (by decide) rfl (by omega)) ?_
 rintro r H2 ⟨hx2,-,-,hr⟩
 rw[bk1]at hr
 obtain⟨vo,rfl,hvo,hnew,-⟩:=hr helloE hello_val.symm rfl
 rw[wv1 w1]at hvo
 have hx2':=hx1.trans hx2
 have hl2:=hx2'.1
 clear hr hv1 hx2
 obtain⟨bb,sp,cap,rfl,gb,hsp,hcap⟩:=hvo.els (by decide)
 have hwl:wordI.length=26:=rfl
 rw[hwl]at hvo hnew hcap ⊢
 have hbb:H1.length≤bb:=hnew _ _ _ _ _ rfl
 obtain⟨vt,hst,hvt⟩:=sl_head (k:=16) hvo.sli (by decide)
 obtain⟨vd,hsd,hvd⟩:=sl_drop (k:=16) hvo.sli (by decide)
 have hst:∀H',lsem (.sl 1 false true false) [.slice (some ⟨bb,0,sp⟩) 26 cap,.int .i64 16] H'=some vt:=hst
 have hsd:∀H',lsem (.sl 1 true false false) [.slice (some ⟨bb,0,sp⟩) 26 cap,.int .i64 16] H'=some vd:=hsd
 have hvt:SlI H2 vt helloI:=hvt
 have hvd:SlI H2 vd chkI:=hvd
 clear hvo hwl
 (try simp only[ctlB])
 repeat' ((first|refine xSQq ?_|refine xOQq rfl ?_);(try simp only[ctlB]))
 refine xTQq ?_
 refine wpH_call0 (helloP (by omega)) ?_
 rintro v H3 ⟨hx3,hv3⟩
 have hl3:=hx3.1
 have hvt:=hvt.mono hx3
 have hvd:=hvd.mono hx3
 have gb:=hx3.get gb
 (try simp only[ctlB])
 repeat' ((first|refine xSQq ?_|refine xOQq rfl ?_);(try simp only[ctlB]))
 refine xTQq ?_
 refine wpH_call0 (same_eq hvt hv3 (by decide) (by decide) rfl) ?_
 rintro v _ ⟨rfl,rfl⟩
 clear hvt hv3
 (try simp only[ctlB])
 (refine xUQq rfl ?_;(try simp only[ctlB]))
 generalize hG:H3++_=G at *
 obtain⟨g4,hxG⟩:=box_facts hG
 clear hG
 have hvd:=hvd.mono hxG
 have gb:=hxG.get gb
 have hx4:=(hx2'.trans hx3).trans hxG
 have hl4:=hx4.1
 have hck:=Sl.whole (enc:=Value.int .i64) (l:=chkI) g4 rfl
 have hlb:=Heap.get_lt gb
 refine xTQq ?_
 refine wpH_call0 (same_eq hvd hck (by decide) (by decide) rfl) ?_
 rintro v _ ⟨rfl,rfl⟩
 clear hvd hck g4 hst hsd hx3 hxG hx2' hx1
 (try simp only[ctlB])
 refine xCQq (fun h=>?_) (fun h=>?_)
 ·simp at h
 clear h
 have hcl:(intL wordI).length=26:=rfl
 (try simp only[ctlB])
 repeat' ((first|refine xSQq ?_|refine xOQq rfl ?_);(try simp only[ctlB]))
 generalize hH5:G.set bb _=H5 at *
 have gb2:Heap.get H5 bb=some (intL wl1):=by rw[←hH5,get_set_self hlb];rfl
 have hx5:Ext H H5:=by rw[←hH5];exact hx4.set (by omega)
 clear gb hcl hH5
 have hl5:=hx5.1
 have hw5:SlI H5 (.slice (some ⟨bb,0,sp⟩) 26 cap) wl1:=.inr ⟨bb,0,sp,cap,_,rfl,gb2,rfl,by decide,hsp,hcap⟩
 refine xHQq ?_
 refine wpH_call0 (decP (v:=1) (l:=2) (i:=1) (wl:=wl1) (el:=[]) hw5 (.inl ⟨rfl,rfl⟩) (by decide) (by decide) (by decide) rfl (by omega)) ?_
 rintro r H6 ⟨hx6,-,-,-,hr⟩
 rw[bk1]at hr
 obtain⟨vd,rfl,hvd⟩:=hr (by decide) rd1 (fun x hx=>(ok1 x hx).1)
 have hf0:=(ok1 0 (by decide)).2
 rw[wv1 hf0,show chg wl1 wordI b1.all=1 from chg1]
 rw[show b1.n=1 from rfl,dat1 hf0]at hvd
 have hx7:=hx5.trans hx6
 have hl7:=hx7.1
 clear hr hf0 hw5 gb2 hx6
 unfold tup3
 (try simp only[ctlB])
 repeat' ((first|refine xSQq ?_|refine xOQq rfl ?_);(try simp only[ctlB]))
 refine xHQq ?_
 refine wpH_call0 (placeP (v:=5) (l:=3) (i:=18) (by decide) rfl (by omega)) ?_
 rintro r H7 ⟨hx8,vp,rfl,hp⟩
 have hvd:=hvd.mono hx8
 have hx8:=hx7.trans hx8
 have hl8:=hx8.1
 obtain⟨q0,q1,q2,q3,q4⟩:=bk18
 have p1:=ptL_two (l:=(bk 18).plI) (i:=4) (by rw[q0];decide)
 have p2:=ptL_two (l:=(bk 18).plI) (i:=60) (by rw[q0];decide)
 have p3:=ptL_two (l:=(bk 18).plI) (i:=61) (by rw[q0];decide)
 have p4:=ptL_two (l:=(bk 18).plI) (i:=62) (by rw[q0];decide)
 have hpl:=ptL_len (bk 18).plI
 rw[q0]at hpl
 rw[q1]at p1
 rw[q2]at p2
 rw[q3]at p3
 rw[q4]at p4
 obtain⟨pb,psp,pc,rfl,gp⟩:=hp.els (by rw[q0];decide)
 rw[q0]
 clear q0 q1 q2 q3 q4 hp
 generalize ptL (bk 18).plI=PL at *
 have p1:(PL.drop 8).take 2=[.int .i64 0,.int .i64 1]:=p1
 have p2:(PL.drop 120).take 2=[.int .i64 2,.int .i64 15]:=p2
 have p3:(PL.drop 122).take 2=[.int .i64 3,.int .i64 15]:=p3
 have p4:(PL.drop 124).take 2=[.int .i64 0,.int .i64 15]:=p4
 have hpl:PL.length=268:=hpl
 (try simp only[ctlB])
 repeat' ((first|refine xSQq ?_|refine xOQq rfl ?_);(try simp only[ctlB]))
 refine xCQq (fun h=>?_) (fun h=>?_)
 ·simp at h
 clear h
 (try simp only[ctlB])
 repeat' ((first|refine xSQq ?_|refine xOQq rfl ?_);(try simp only[ctlB]))
 refine xHQq ?_
 refine wpH_call0 (helloP (by omega)) ?_
 rintro v H8 ⟨hx9,hv8⟩
 have hvd:=hvd.mono hx9
 have gp:=hx9.get gp
 have hx9:=hx8.trans hx9
 have hl9:=hx9.1
 (try simp only[ctlB])
 repeat' ((first|refine xSQq ?_|refine xOQq rfl ?_);(try simp only[ctlB]))
 refine xHQq ?_
 refine wpH_call0 (same_eq hvd hv8 (by decide) (by decide) rfl) ?_
 rintro v _ ⟨rfl,rfl⟩
 clear hvd hv8
 (try simp only[ctlB])
 repeat' ((first|refine xSQq ?_|refine xOQq rfl ?_);(try simp only[ctlB]))
 refine xRQq ?_
 exact⟨hx9,rfl⟩
end
end Go.Proofs.YtkeagffmmhllcaaGreat
namespace Go.Proofs.YtkeagffmmhllcaaGreat
open Go.Abs Go.RS
set_option linter.unusedSimpArgs false
set_option linter.unusedVariables false
set_option maxRecDepth 20000
def RdL(wl:List Int)(er:Nat→Bool):Prop:=∀i,i<wl.length→er i=false→0≤wl.getD i 0∧wl.getD i 0≤255
section
variable {lo:Nat}{H:Heap}{v l:Int}
theorem bytesV{vw ve:Value}{wl:List Int}{el:List Bool}(hw:SlI H vw wl)(he:SlB H ve el)(hwl:wl.length≤1000000000)(hel:el.length=0∨el.length=wl.length):Ev cp lo 24 [vw,ve] H (fun r H'=>H=H'∧∃t,r=.bool t∧(t=true↔RdL wl fun i=>el.getD i false)):=by
 have hw0:=hw
 have he0:=he
 obtain⟨aw,cw,rfl⟩:=hw.len
 obtain⟨ae,ce,rfl⟩:=he.len
 refine st24 ?_;unfold bd24 cf24;simp only[kB,ctlB]
 repeat' ((first|refine xSQi ?_|refine xOQi rfl ?_);(try simp only[ctlB]))
 refine aw_for (fun k S H'=>H=H'∧(∀i,i<k→el.getD i false=false→0≤wl.getD i 0∧wl.getD i 0≤255)∧∃(z:Nat→Value),S=[.slice aw wl.length cw,.slice ae el.length ce,z 2,.int .i64 (k:Nat)]) wl.length ?_ ?_ ?_ ?_
 ·exact⟨rfl,by omega,exZGc rfl⟩
 ·rintro k S H' hk ⟨rfl,-,z,rfl⟩
  exact⟨_,xEQi,by simp⟩
 ·rintro k S H' hk ⟨rfl,hin,z,rfl⟩
  obtain⟨xb,xo,xsp,xc,xs,e1,g1,f1,_⟩:=hw0.els 0 (by omega)
  cases e1
  have k1:=f1 k hk
  have hin':(el.getD k false=false→0≤wl.getD k 0∧wl.getD k 0≤255)→∀i,i<k+1→el.getD i false=false→0≤wl.getD i 0∧wl.getD i 0≤255:=fun h i hi=>by
   by_cases e:i=k
   ·rw[e];exact h
   ·exact hin i (by omega)
  have hbad:el.getD k false=false→¬ (0≤wl.getD k 0∧wl.getD k 0≤255)→¬ RdL wl (fun i=>el.getD i false):=fun h h2 h3=>h2 (h3 k hk h)
  have hcase:(el.length=0∧el.getD k false=false)∨(0<el.length∧el.length≤wl.length∧wl.length≤el.length):=by
   rcases hel with h|h
   ·exact .inl ⟨h,by rw[List.length_eq_zero_iff.1 h];rfl⟩
   ·exact .inr ⟨by omega,by omega⟩
  clear f1 hin
  generalize wl.getD k 0=x at *
  by_cases hx:0≤x∧x≤255
  ·replace hin':=hin' fun _=>hx
   clear hbad hcase
   have hb:(decide (x<0) || decide (255<x))=false:=by simp;omega
   have hb2:(if x<0 then true else decide (255<x))=false:=by split<;>simp<;>omega
   (try simp only[ctlB])
   have c1:decide (x<0)=false:=by simp;omega
   have c2:decide (255<x)=false:=by simp;omega
   refine xCQi (fun h=>?_) (fun h=>?_)
   ·simp at h
   clear h k1
   (try simp only[ctlB])
   repeat' ((first|refine xSQi ?_|refine xOQi rfl ?_);(try simp only[ctlB]))
   exact⟨by trivial,hin',exZGc (by first|rfl|(simp only[Int.natCast_add,Int.natCast_one];rfl)|simp only[Int.natCast_add,Int.natCast_one])⟩
  ·have c3:(decide (x<0) || decide (255<x))=true:=by simp;omega
   rcases hcase with ⟨h0,hk0⟩|⟨h0,h1⟩
   ·replace hbad:=hbad hk0 hx
    clear hin' hx hk0
    (try simp only[ctlB])
    refine xCQi (fun h=>?_) (fun h=>?_)
    case refine_2=>simp at h
    clear h
    (try simp only[ctlB])
    repeat' ((first|refine xSQi ?_|refine xOQi rfl ?_);(try simp only[ctlB]))
    refine xRQi ?_
    exact⟨by trivial,false,rfl,fun h=>(by cases h),fun h=>absurd h hbad⟩
   ·obtain⟨yb,yo,ysp,yc,ys,e2,g2,f2,_⟩:=he0.els false (by omega)
    cases e2
    have k2:=f2 k (by omega)
    clear f2
    have hne:decide (((el.length:Nat):Int)=0)=false:=decide_eq_false (by omega)
    generalize el.getD k false=t at *
    cases t with
    | false=>
     replace hbad:=hbad rfl hx
     clear hin' hx
     (try simp only[ctlB])
     refine xCQi (fun h=>?_) (fun h=>?_)
     case refine_2=>simp at h
     clear h
     (try simp only[ctlB])
     repeat' ((first|refine xSQi ?_|refine xOQi rfl ?_);(try simp only[ctlB]))
     refine xRQi ?_
     exact⟨by trivial,false,rfl,fun h=>(by cases h),fun h=>absurd h hbad⟩
    | true=>
     replace hin':=hin' fun h=>by cases h
     clear hbad hx
     (try simp only[ctlB])
     refine xCQi (fun h=>?_) (fun h=>?_)
     ·simp at h
     clear h k1 k2
     (try simp only[ctlB])
     repeat' ((first|refine xSQi ?_|refine xOQi rfl ?_);(try simp only[ctlB]))
     exact⟨by trivial,hin',exZGc (by first|rfl|(simp only[Int.natCast_add,Int.natCast_one];rfl)|simp only[Int.natCast_add,Int.natCast_one])⟩
 ·rintro S H' ⟨rfl,hin,z,rfl⟩
  (try simp only[ctlB])
  repeat' ((first|refine xSQi ?_|refine xOQi rfl ?_);(try simp only[ctlB]))
  refine xRQi ?_
  exact⟨by trivial,true,rfl,fun _=>hin,fun _=>rfl⟩
end
end Go.Proofs.YtkeagffmmhllcaaGreat
namespace Go.Proofs.YtkeagffmmhllcaaGreat
open Go.Abs Go.RS
set_option linter.unusedSimpArgs false
set_option linter.unusedVariables false
set_option maxRecDepth 20000
section
variable {lo:Nat}{v l:Int}{vd:Value}{d:List Int}
end
end Go.Proofs.YtkeagffmmhllcaaGreat
