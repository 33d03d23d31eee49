/- Lemmas. -/
import Derived.Test.YtgpolmomghejoaaDoorN17
set_option linter.unusedVariables false
set_option linter.unusedSimpArgs false
set_option linter.unusedSectionVars false
namespace Go.Proofs.YtgpolmomghejoaaDoor
open Go.Abs
set_option maxRecDepth 20000
theorem shr_u{N j:Nat}(hj:j<6):(N:Int).fdiv (2^min (8*(5-(j:Int))).toNat IntKind.i64.bits)=((N/256^(5-j):Nat):Int):=by
 rcases(show j=0∨j=1∨j=2∨j=3∨j=4∨j=5 by omega)with rfl|rfl|rfl|rfl|rfl|rfl<;>simp[IntKind.bits,Int.fdiv_eq_ediv]
theorem by6_take{N j:Nat}(hj:j<6):(by6 N).take (j+1)=(by6 N).take j++[UInt8.ofNat (N/256^(5-j))]:=by
 rcases(show j=0∨j=1∨j=2∨j=3∨j=4∨j=5 by omega)with rfl|rfl|rfl|rfl|rfl|rfl<;>rfl
theorem fivesP{lo:Nat}{H:Heap}{v:Value}{P:List Nat}(hlo:lo≤H.length)(hl:SlN H v P)(h5:P.length=5)(hd:∀w ∈ P,w<900) :
  Ev cp lo 50 [v] H (fun r H'=>Ext H H'∧((281474976710656≤numB 900 P∧r=.tuple #[.slice none 0 0,.bool false])∨(numB 900 P<281474976710656∧∃u,r=.tuple #[u,.bool true]∧Sl encU H' u (by6 (numB 900 P))))):=by
 obtain⟨a5,c5,rfl⟩:=hl.len
 rw[h5]at hl
 rw[h5]
 refine st50 ?_;unfold bd50 cf50;simp only[kB,ctlB]
 repeat' ((first|refine xSSg ?_|refine xOSg rfl ?_);(try simp only[ctlB]))
 refine aw_for (fun j S H2=>H=H2∧∃(z:Nat→Value),S=[.slice a5 5 c5,.slice none 0 0,.bool false,.int .i64 (numB 900 (P.take j):Nat),.int .i64 (j:Nat),z 5,z 6,z 7,z 8,z 9]) 5 ?_ ?_ ?_ ?_
 ·exact⟨rfl,exZSb rfl⟩
 ·rintro j S H2 hj ⟨rfl,z,rfl⟩
  exact⟨_,xESg,by simp;try omega⟩
 ·rintro j S H2 hj ⟨rfl,z,rfl⟩
  obtain⟨b0,o0,sp0,cap0,xs0,e0,hg0,hx0,hle0⟩:=hl.els 0 (by omega)
  rw[h5]at e0
  cases e0
  have hxa:=hx0 j (by omega)
  have hlt:=numB_lt hd j (by omega)
  have h900:(900:Nat)^j≤900^4:=Nat.pow_le_pow_right (by decide) (by omega)
  have hwp:P.getD j 0<900:=by
   rw[List.getD_eq_getElem?_getD,List.getElem?_eq_getElem (by omega)];exact hd _ (List.getElem_mem _)
  rw[numB_take (by omega)]
  have h4:numB 900 (P.take j)≤656100000000:=by omega
  clear hx0 hlt h900
  generalize numB 900 (P.take j)=X at *
  generalize P.getD j 0=y at *
  (try simp only[ctlB])
  repeat' ((first|refine xSSg ?_|refine xOSg rfl ?_);(try simp only[ctlB]))
  exact⟨by trivial,exZSb (by rw[Nat.mul_comm X 900];simp only[Int.natCast_add,Int.natCast_mul,Int.cast_ofNat_Int];rfl)⟩
 ·rintro S H2 ⟨rfl,z,rfl⟩
  have hN5:=numB_lt hd 5 (by omega)
  have e5:P.take 5=P:=List.take_of_length_le (by omega)
  rw[e5]at hN5 ⊢
  generalize numB 900 P=N at *
  (try simp only[ctlB])
  refine xCSg (fun h=>?_) (fun h=>?_)
  ·have hbig:281474976710656≤N:=by simp only[decide_eq_true_eq]at h;omega
   clear h
   (try simp only[ctlB])
   repeat' ((first|refine xSSg ?_|refine xOSg rfl ?_);(try simp only[ctlB]))
   refine xRSg ?_
   exact⟨Ext.refl _,.inl ⟨hbig,rfl⟩⟩
  have hsm:N<281474976710656:=by simp only[decide_eq_false_iff_not]at h;omega
  clear h
  (try simp only[ctlB])
  repeat' ((first|refine xSSg ?_|refine xOSg rfl ?_);(try simp only[ctlB]))
  refine aw_for (fun j S H2=>Ext H H2∧(∃u b',H.length≤b'∧Own lo 1 H2 u b' (((by6 N).take j).map encU)∧∃(z:Nat→Value),S=[.slice a5 5 c5,z 1,z 2,.int .i64 (N:Nat),z 4,u,.int .i64 (5-(j:Int)),z 7,z 8,z 9])) 6 ?_ ?_ ?_ ?_
  ·exact⟨Ext.refl _,_,H.length,Nat.le_refl _,Own.nil (by omega),exZSb rfl⟩
  ·rintro j S H2 hj ⟨-,u,b',-,-,z,rfl⟩
   exact⟨_,xESg,by simp;omega⟩
  ·rintro j S H2 hj ⟨hx,u,b',hb',ho,z,rfl⟩
   have hx1:=hx.1
   have e1:=shr_u (N:=N) hj
   have hob2:((by6 N).take j).length≤1000000:=by simp[by6];omega
   rw[by6_take hj]
   generalize hX:N/256^(5-j)=X at *
   (try simp only[ctlB])
   repeat' ((first|refine xSSg ?_|refine xOSg rfl ?_);(try simp only[ctlB]))
   rw[u8_wrap,show Value.int .u8 ((UInt8.ofNat X).toNat:Int)=encU (UInt8.ofNat X) from rfl]
   refine xHSg ?_
   refine app_byte (by omega) hx hb' ho hob2 ?_
   intro a4 m4 H4 hx4 hl4 hk4 ho4
   clear ho hob2 e1
   (try simp only[ctlB])
   repeat' ((first|refine xSSg ?_|refine xOSg rfl ?_);(try simp only[ctlB]))
   exact⟨hx4,_,H2.length+1,by omega,ho4,exZSb (by simp;omega)⟩
  ·rintro S H2 ⟨hx,u,b',hb',ho,z,rfl⟩
   (try simp only[ctlB])
   repeat' ((first|refine xSSg ?_|refine xOSg rfl ?_);(try simp only[ctlB]))
   refine xRSg ?_
   exact⟨hx,.inr ⟨hsm,u,rfl,Sl.ofOwn ho⟩⟩
theorem dataP{lo:Nat}{H:Heap}{v:Value}{l:List Nat}(hlo:lo≤H.length)(hl:SlN H v l)(hl8:l.length≤8192) :
  Ev cp lo 32 [v] H (fun r H'=>H'=H∧r=.int .i64 ((dataS l).length:Nat)):=by
 obtain⟨ad,c0,rfl⟩:=hl.len
 refine st32 ?_;unfold bd32 cf32;simp only[kB,ctlB]
 repeat' ((first|refine xSSg ?_|refine xOSg rfl ?_);(try simp only[ctlB]))
 refine aw_midXB (fun S H'=>H=H'∧∃q,(q≤(dataS l).length∧(dataS l).length≤q)∧∃(z:Nat→Value),S=[.slice ad l.length c0,z 1,.int .i64 (q:Nat)]) ?_ ?_
 ·refine aw_loop' (fun m S H'=>H=H'∧∃q,(m+q≤l.length∧l.length≤m+q)∧q≤l.length∧(∀j,j<q→l.getD j 0<900)∧∃(z:Nat→Value),S=[.slice ad l.length c0,z 1,.int .i64 (q:Nat)]) l.length ?_ ?_
  ·exact⟨rfl,0,by omega,by omega,fun j hj=>by omega,exZSb rfl⟩
  rintro m S H' ⟨rfl,q,hq,hq2,hall,z,rfl⟩
  by_cases hlt:q<l.length
  ·obtain⟨b0,o0,sp0,cap0,xs0,e0,hg0,hx0,hle0⟩:=hl.els 0 (by omega)
   cases e0
   have hxa:=hx0 q hlt
   clear hx0
   (try simp only[ctlB])
   refine xCSg (fun h=>?_) (fun h=>?_)
   ·have h9:l.getD q 0<900:=by
     simp only[Bool.and_eq_true,decide_eq_true_eq]at h;omega
    clear h
    (try simp only[ctlB])
    repeat' ((first|refine xSSg ?_|refine xOSg rfl ?_);(try simp only[ctlB]))
    simp only[loopQ_n]
    refine⟨m-1,by omega,by trivial,q+1,by omega,by omega,fun j hj=>?_,exZSb (by first|rfl|(simp only[Int.natCast_add,Int.natCast_one];rfl)|simp only[Int.natCast_add,Int.natCast_one])⟩
    by_cases e:j=q
    ·subst e;exact h9
    ·exact hall j (by omega)
   ·have h9:900≤l.getD q 0:=by
     simp only[Bool.and_eq_false_iff,decide_eq_false_iff_not]at h;omega
    clear h
    have he:=dataS_end (n:=q) hall (by omega) (.inr h9)
    (try simp only[ctlB])
    exact⟨by trivial,q,by omega,exZSb rfl⟩
  ·have he:=dataS_end (n:=q) hall (by omega) (.inl (by omega))
   have hirr:decide (((q:Nat):Int)<((l.length:Nat):Int))=false:=by simp;omega
   (try simp only[ctlB])
   refine aw_cond (t:=false) (by simp(disch:=first|omega|(simp only[lenB];omega))only[evB,xBSg,Nat.reduceAdd,Nat.reduceBEq,Int.reduceToNat, *];try rfl) (fun h=>by cases h) (fun h=>?_)
   clear h
   (try simp only[ctlB])
   exact⟨by trivial,_,by omega,exZSb rfl⟩
 ·rintro S H' ⟨rfl,q,hq,z,rfl⟩
  have e:(dataS l).length=q:=by omega
  rw[e]
  clear e hq
  (try simp only[ctlB])
  repeat' ((first|refine xSSg ?_|refine xOSg rfl ?_);(try simp only[ctlB]))
  refine xRSg ?_
  exact⟨rfl,rfl⟩
def bothS(c sub shift:Nat):Option (List UInt8×Nat×Nat):=match stp sub shift (c/30)with
 | none=>none
 | some (c1,x,y)=>match stp x y (c%30)with
  | none=>none
  | some (c2,x2,y2)=>some (chS c1++chS c2,x2,y2)
theorem bothP{lo:Nat}{H:Heap}{c sub shift:Nat}(hlo:lo≤H.length)(hc:c<900)(h1:sub<4)(h2:shift<3) :
  Ev cp lo 31 [.int .i64 (c:Nat),.int .i64 (sub:Nat),.int .i64 (shift:Nat)] H (fun r H'=>Ext H H'∧((bothS c sub shift=none∧r=.tuple #[.slice none 0 0,.int .i64 0,.int .i64 0,.bool false])∨∃t x y u,bothS c sub shift=some (t,x,y)∧r=.tuple #[u,.int .i64 (x:Nat),.int .i64 (y:Nat),.bool true]∧Sl encU H' u t)):=by
 have e1:(c:Int).tdiv 30=((c/30:Nat):Int):=rfl
 have e2:(c:Int).tmod 30=((c%30:Nat):Int):=rfl
 refine st31 ?_;unfold bd31 cf31;simp only[kB,ctlB]
 repeat' ((first|refine xSSg ?_|refine xOSg rfl ?_);(try simp only[ctlB]))
 refine aw_for (fun j S H2=>Ext H H2∧(∃(x y:Nat) (u:Value) (b':Nat) (t:List UInt8),x<4∧y<3∧(False∨(j=0∧t=[]∧x=sub∧y=shift∨(j=1∧∃c1,stp sub shift (c/30)=some (c1,x,y)∧t=chS c1)∨j=2∧bothS c sub shift=some (t,x,y)))∧t.length≤j∧H.length≤b'∧Own lo 1 H2 u b' (t.map encU)∧∃(z:Nat→Value),S=[.int .i64 (c:Nat),.int .i64 (x:Nat),.int .i64 (y:Nat),z 3,z 4,z 5,z 6,u,.int .i64 (j:Nat),z 9,z 10,z 11,z 12,z 13,z 14,z 15,z 16,z 17])) 2 ?_ ?_ ?_ ?_
 ·exact⟨Ext.refl _,sub,shift,_,H.length,[],h1,h2,.inr (.inl ⟨rfl,rfl,rfl,rfl⟩),by simp,Nat.le_refl _,Own.nil (by omega),exZSb rfl⟩
 ·rintro j S H2 hj ⟨hx,x,y,u,b',t,k1,k2,k3,k4,k5,ho,z,rfl⟩
  exact⟨_,xESg,by simp;omega⟩
 ·rintro j S H2 hj ⟨hx,x,y,u,b',t,k1,k2,k3,k4,k5,ho,z,rfl⟩
  have hxl:=hx.1
  obtain⟨w,hw,hw30⟩:∃w,w=(if j=0 then c/30 else c%30)∧w<30:=⟨_,rfl,by split;omega;exact Nat.mod_lt c (by decide)⟩
  replace hw:False∨_:=.inr hw
  (try simp only[ctlB])
  repeat' ((first|refine xSSg ?_|refine xOSg rfl ?_);(try simp only[ctlB]))
  refine aw_midX (fun S H'=>H2=H'∧∃(z:Nat→Value),S=[.int .i64 (c:Nat),.int .i64 (x:Nat),.int .i64 (y:Nat),z 3,z 4,z 5,z 6,u,.int .i64 (j:Nat),.int .i64 (w:Nat),z 10,z 11,z 12,z 13,z 14,z 15,z 16,z 17]) ?_ ?_
  ·refine xCSg (fun h=>?_) (fun h=>?_)
   ·have e:j=1:=by simp only[decide_eq_true_eq]at h;omega
    clear h
    have hw:=hw.resolve_left id
    rw[if_neg (by omega)]at hw
    subst hw
    clear e k3
    (try simp only[ctlB])
    repeat' ((first|refine xSSg ?_|refine xOSg rfl ?_);(try simp only[ctlB]))
    exact⟨by trivial,exZSb rfl⟩
   ·have e:j=0:=by simp only[decide_eq_false_iff_not]at h;omega
    clear h
    have hw:=hw.resolve_left id
    rw[if_pos e]at hw
    subst hw
    clear e k3
    (try simp only[ctlB])
    exact⟨by trivial,exZSb rfl⟩
  ·rintro S H' ⟨rfl,z,rfl⟩
   (try simp only[ctlB])
   refine xHSg ?_
   refine wpH_call0 (rstepP k1 k2 hw30) ?_
   rintro r H4 ⟨rfl,rfl⟩
   unfold stepR
   cases hs:stp x y w with
   | none=>
    have hbn:bothS c sub shift=none:=by
     have hw:=hw.resolve_left id
     rcases k3.resolve_left id with ⟨e,-,rfl,rfl⟩|⟨e,c1,h6,-⟩|⟨e,-⟩
     ·rw[if_pos e]at hw
      rw[bothS,←hw,hs]
     ·rw[if_neg (by omega)]at hw
      rw[bothS,h6]
      simp only
      rw[←hw,hs]
     ·omega
    (try simp only[ctlB])
    repeat' ((first|refine xSSg ?_|refine xOSg rfl ?_);(try simp only[ctlB]))
    refine xCSg (fun h=>?_) (fun h=>?_)
    ·clear h
     (try simp only[ctlB])
     repeat' ((first|refine xSSg ?_|refine xOSg rfl ?_);(try simp only[ctlB]))
     refine xRSg ?_
     exact⟨hx,.inl ⟨hbn,rfl⟩⟩
    ·simp at h
   | some q=>
    obtain⟨c2,x2,y2⟩:=q
    have q1:=stp_ok k1 k2 hw30 hs
    have hnext:(j+1=1∧∃c1,stp sub shift (c/30)=some (c1,x2,y2)∧t++chS c2=chS c1)∨j+1=2∧bothS c sub shift=some (t++chS c2,x2,y2):=by
     have hw:=hw.resolve_left id
     rcases k3.resolve_left id with ⟨e,e2,rfl,rfl⟩|⟨e,c1,h6,h7⟩|⟨e,-⟩
     ·rw[if_pos e]at hw
      subst e2
      exact .inl ⟨by omega,c2,by rw[←hw,hs],rfl⟩
     ·rw[if_neg (by omega)]at hw
      refine .inr ⟨by omega,?_⟩
      rw[bothS,h6]
      simp only
      rw[←hw,hs,h7]
     ·omega
    have hch2:(chS c2).length≤1:=by unfold chS;split<;>simp
    have hnext:False∨_:=.inr hnext
    clear hs
    (try simp only[ctlB])
    repeat' ((first|refine xSSg ?_|refine xOSg rfl ?_);(try simp only[ctlB]))
    refine xCSg (fun h=>?_) (fun h=>?_)
    ·simp at h
    clear h
    (try simp only[ctlB])
    refine aw_midX (fun S H'=>Ext H H'∧∃u b',H.length≤b'∧Own lo 1 H' u b' ((t++chS c2).map encU)∧∃(z:Nat→Value),S=[.int .i64 (c:Nat),.int .i64 (x:Nat),.int .i64 (y:Nat),z 3,z 4,z 5,z 6,u,.int .i64 (j:Nat),z 9,z 10,.int .i64 (x2:Nat),.int .i64 (y2:Nat),z 13,z 14,z 15,z 16,z 17]) ?_ ?_
    ·by_cases hc2:0≤c2
     ·obtain⟨n,rfl⟩:∃n:Nat,c2=n:=⟨c2.toNat,by omega⟩
      have hch:chS (n:Int)=[UInt8.ofNat n]:=by simp[chS]
      refine xCSg (fun h=>?_) (fun h=>?_)
      ·clear h
       (try simp only[ctlB])
       repeat' ((first|refine xSSg ?_|refine xOSg rfl ?_);(try simp only[ctlB]))
       have hcell:Value.int .u8 (n:Nat)=encU (UInt8.ofNat n):=by
        simp only[encU,UInt8.toNat_ofNat']
        rw[Nat.mod_eq_of_lt (by omega)]
       rw[hcell]
       refine xHSg ?_
       refine app_byte (by omega) hx k5 ho (by omega) ?_
       intro a4 m4 H4 hx4 hl4 hk4 ho4
       rw[hch]
       clear ho
       (try simp only[ctlB])
       repeat' ((first|refine xSSg ?_|refine xOSg rfl ?_);(try simp only[ctlB]))
       exact⟨hx4,_,_,by have:=hx.1;omega,ho4,exZSb rfl⟩
      ·exfalso;first|cases h|(simp only[decide_eq_false_iff_not]at h;omega)
     ·have hch:chS c2=[]:=by rw[chS,if_neg hc2]
      refine xCSg (fun h=>?_) (fun h=>?_)
      ·exfalso;first|cases h|(simp only[decide_eq_true_eq]at h;omega)
      clear h
      rw[hch,List.append_nil]
      (try simp only[ctlB])
      exact⟨hx,_,b',k5,ho,exZSb rfl⟩
    ·rintro S H4 ⟨hx4,u4,b4,hb4,ho4,z,rfl⟩
     (try simp only[ctlB])
     repeat' ((first|refine xSSg ?_|refine xOSg rfl ?_);(try simp only[ctlB]))
     refine⟨hx4,x2,y2,u4,b4,t++chS c2,q1.2.2.1,q1.2.2.2,.inr ?_,by simp;omega,hb4,ho4,exZSb (by first|rfl|(simp only[Int.natCast_add,Int.natCast_one];rfl)|simp only[Int.natCast_add,Int.natCast_one])⟩
     rcases hnext.resolve_left id with ⟨e,h⟩|⟨e,h⟩
     ·obtain⟨c1,h1,h2⟩:=h
      exact .inr (.inl ⟨e,c1,h1,h2⟩)
     ·exact .inr (.inr ⟨e,h⟩)
 ·rintro S H2 ⟨hx,x,y,u,b',t,k1,k2,k3,k4,k5,ho,z,rfl⟩
  (try simp only[ctlB])
  repeat' ((first|refine xSSg ?_|refine xOSg rfl ?_);(try simp only[ctlB]))
  refine xRSg ?_
  have k3:=k3.resolve_left id
  rcases k3 with ⟨e,-⟩|⟨e,-⟩|⟨-,e⟩
  ·omega
  ·omega
  ·exact⟨hx,.inr ⟨t,x,y,u,e,rfl,Sl.ofOwn ho⟩⟩
theorem one_encU1(a:UInt8):(encU a).oneCell'=true:=rfl
theorem sl_int{H:Heap}{v:Value}{l:List Nat}(h:SlN H v l):SlI H v (l.map Int.ofNat):=by
 rcases h with ⟨rfl,rfl⟩|⟨b,o,sp,cap,xs,rfl,h2,h3,h4,h5,h6⟩
 ·exact .inl ⟨rfl,rfl⟩
 ·refine .inr ⟨b,o,sp,cap,xs,by rw[List.length_map],h2,?_,by rw[List.length_map];exact h4,h5,by rw[List.length_map];exact h6⟩
  rw[List.length_map,h3,List.map_map]
  rfl
theorem int_nat(l:List Nat):(l.map Int.ofNat).map Int.toNat=l:=by
 rw[List.map_map]
 conv=>rhs;rw[←List.map_id l]
 exact List.map_congr_left fun b _=>by simp
theorem fromR_nat{l:List Nat}(hl:l.length≤8192)(hd:∀w ∈ l,w<900):fromR (l.map Int.ofNat)=match fromN l with|some t=>(t,0)|none=>([],22):=by
 unfold fromR
 have h1:¬ (8192<(l.map Int.ofNat).length):=by rw[List.length_map];omega
 have h2:(l.map Int.ofNat).all okW=true:=by
  rw[List.all_eq_true]
  intro w hw
  obtain⟨n,hn,rfl⟩:=List.mem_map.1 hw
  have:=hd n hn
  simp only[okW,Bool.and_eq_true,decide_eq_true_eq,Int.ofNat_eq_natCast]
  omega
 rw[if_neg h1,h2,int_nat]
 rfl
theorem rrunP{lo:Nat}{H:Heap}{v:Value}{l:List Nat}{mode:Nat}(hlo:lo≤H.length)(hl:SlN H v l)(hl8:l.length≤8192)(hd:∀w ∈ l,w<900)(hm:mode=901∨mode=902∨mode=924) :
  Ev cp lo 33 [.int .i64 (mode:Nat),v] H (fun r H'=>Ext H H'∧IsDec H' r (runS mode l)):=by
 obtain⟨ad,c0,rfl⟩:=hl.len
 by_cases h902:mode=902
 ·subst h902
  have hs:runS 902 l=((fromR (l.map Int.ofNat)).1,(fromR (l.map Int.ofNat)).2.toNat):=by
   rw[fromR_nat hl8 hd,runS,if_pos rfl]
   cases fromN l<;>rfl
  have hs2:(fromR (l.map Int.ofNat)).2=0∨(fromR (l.map Int.ofNat)).2=22:=by
   rw[fromR_nat hl8 hd]
   cases fromN l<;>simp
  rw[hs]
  clear hs
  refine st33 ?_;unfold bd33 cf33;simp only[kB,ctlB]
  repeat' ((first|refine xSSg ?_|refine xOSg rfl ?_);(try simp only[ctlB]))
  refine aw_cond (t:=true) (by simp(disch:=first|omega|(simp only[lenB];omega))only[evB,xBSg,Nat.reduceAdd,Nat.reduceBEq,Int.reduceToNat, *];try rfl) (fun h=>?_) (fun h=>by cases h)
  clear h
  (try simp only[ctlB])
  refine xHSg ?_
  refine wpH_call0 (rfnumP (by omega) (sl_int hl)) ?_
  rintro r H2 ⟨hx,rfl⟩
  generalize fromR (l.map Int.ofNat)=q at *
  obtain⟨t,e⟩:=q
  simp only at hs2
  (try simp only[ctlB])
  repeat' ((first|refine xSSg ?_|refine xOSg rfl ?_);(try simp only[ctlB]))
  have hs2b:hsem0 lo .s2b [strV t] H2=some (.slice (some ⟨H2.length,0,some 1⟩) t.length t.length,H2++[some (t.map encU)]):=by
   simp only[hsem0,hsem,strV]
   rw[str_size];rfl
  refine aw_op rfl (by simp(disch:=first|omega|(simp only[lenB];omega))only[evB,xBSg,Nat.reduceAdd,Nat.reduceBEq,Int.reduceToNat, *];try rfl) (by simp(disch:=first|omega|(simp only[lenB];omega))only[evB,xBSg,Nat.reduceAdd,Nat.reduceBEq,Int.reduceToNat, *]) (by simp(disch:=first|omega|(simp only[lenB];omega))only[evB,xBSg,Nat.reduceAdd,Nat.reduceBEq,Int.reduceToNat, *];try rfl) hs2b (by simp(disch:=first|omega|(simp only[lenB];omega))only[evB,xBSg,Nat.reduceAdd,Nat.reduceBEq,Int.reduceToNat, *];try rfl) ?_
  (try simp only[ctlB])
  repeat' ((first|refine xSSg ?_|refine xOSg rfl ?_);(try simp only[ctlB]))
  refine xRSg ?_
  refine⟨hx.trans (Ext.app _ _),_,?_,.inr ⟨H2.length,0,some 1,t.length,t.map encU,rfl,get_app0,by rw[List.drop_zero,List.take_of_length_le (by simp)],by simp,.inr rfl,by simp⟩⟩
  have:((e.toNat:Nat):Int)=e:=by omega
  rw[this]
  rfl
 have etm:((l.length:Nat):Int).tmod 5=((l.length%5:Nat):Int):=rfl
 have etd:((l.length:Nat):Int).tdiv 5=((l.length/5:Nat):Int):=rfl
 have ete:0<l.length→(((l.length:Nat):Int)-1).tdiv 5=(((l.length-1)/5:Nat):Int):=by
  intro h
  obtain⟨n,hn⟩:∃n,l.length=n+1:=⟨l.length-1,by omega⟩
  rw[hn,show((n+1:Nat):Int)-1=(n:Nat) by omega]
  all_goals rfl
 have hm2:mode=901∨mode=924:=by omega
 clear hm
 refine st33 ?_;unfold bd33 cf33;simp only[kB,ctlB]
 repeat' ((first|refine xSSg ?_|refine xOSg rfl ?_);(try simp only[ctlB]))
 refine xCSg (fun h=>?_) (fun h=>?_)
 ·exfalso;simp only[decide_eq_true_eq]at h;omega
 clear h
 (try simp only[ctlB])
 repeat' ((first|refine xSSg ?_|refine xOSg rfl ?_);(try simp only[ctlB]))
 refine xCSg (fun h=>?_) (fun h=>?_)
 ·have e:mode=924∧l.length%5≠0:=by simp only[Bool.and_eq_true,decide_eq_true_eq]at h;omega
  clear h
  have hr:runS mode l=([],10):=by rw[runS,if_neg h902,if_pos e]
  rw[hr]
  clear e ete hm2
  (try simp only[ctlB])
  repeat' ((first|refine xSSg ?_|refine xOSg rfl ?_);(try simp only[ctlB]))
  refine xRSg ?_
  exact⟨Ext.refl _,_,rfl,.inl ⟨rfl,rfl⟩⟩
 have hcut:¬ (mode=924∧l.length%5≠0):=by simp only[Bool.and_eq_false_iff,decide_eq_false_iff_not]at h;omega
 clear h
 (try simp only[ctlB])
 obtain⟨G,hG⟩:∃G,(if mode=901 then(l.length-1)/5 else l.length/5)=G:=⟨_,rfl⟩
 have hr:runS mode l=match bytS G l with|some t=>(t,0)|none=>([],22):=by
  rw[runS,if_neg h902,if_neg hcut,hG]
  rfl
 rw[hr]
 have hG5:5*G≤l.length:=by rw[←hG];split<;>omega
 replace hG:False∨_:=.inr hG
 refine aw_midX (fun S H'=>H=H'∧∃(z:Nat→Value),S=[.int .i64 (mode:Nat),.slice ad l.length c0,.slice none 0 0,.int .i64 0,z 4,z 5,.int .i64 (G:Nat),z 7,z 8,z 9,z 10,z 11,z 12,z 13,z 14,z 15,z 16,z 17,z 18]) ?_ ?_
 ·have hG:=hG.resolve_left id
  refine xCSg (fun h=>?_) (fun h=>?_)
  ·have e:mode=901∧0<l.length:=by simp only[Bool.and_eq_true,decide_eq_true_eq]at h;omega
   clear h
   rw[if_pos e.1]at hG
   have ete:=ete e.2
   have hq:1≤l.length:=e.2
   clear e hcut hm2 h902 hr
   (try simp only[ctlB])
   repeat' ((first|refine xSSg ?_|refine xOSg rfl ?_);(try simp only[ctlB]))
   exact⟨by trivial,exZSb (by rw[←hG];rfl)⟩
  ·have e:G=l.length/5:=by
    have:¬ (mode=901∧0<l.length):=by simp only[Bool.and_eq_false_iff,decide_eq_false_iff_not]at h;omega
    rw[←hG];split<;>omega
   clear h
   (try simp only[ctlB])
   exact⟨by trivial,exZSb (by rw[e];rfl)⟩
 rintro S H' ⟨rfl,z,rfl⟩
 clear hG hcut hr ete etd etm
 (try simp only[ctlB])
 repeat' ((first|refine xSSg ?_|refine xOSg rfl ?_);(try simp only[ctlB]))
 refine aw_for (fun k S H'=>Ext H H'∧∃(u:Value) (b':Nat) (t:List UInt8),(False∨bytS G l=(bytS (G-k) (l.drop (5*k))).map (t++·))∧t.length≤6*k∧H.length≤b'∧Own lo 1 H' u b' (t.map encU)∧∃(z:Nat→Value),S=[.int .i64 (mode:Nat),.slice ad l.length c0,.slice none 0 0,.int .i64 0,z 4,z 5,.int .i64 (G:Nat),u,.int .i64 (k:Nat),z 9,z 10,z 11,z 12,z 13,z 14,z 15,z 16,z 17,z 18]) G ?_ ?_ ?_ ?_
 ·exact⟨Ext.refl _,_,H.length,[],.inr (by simp),by simp,Nat.le_refl _,Own.nil hlo,exZSb rfl⟩
 ·rintro k S H' hk ⟨hx,u,b',t,hb,ht,hb',ho,z,rfl⟩
  exact⟨_,xESg,by simp⟩
 ·rintro k S H' hk ⟨hx,u,b',t,hb,ht,hb',ho,z,rfl⟩
  have hx1:=hx.1
  obtain⟨s5,hc5,hs5⟩:=sl_subG (a:=5*k) (b:=5*k+5) (x:=5*(k:Int)) (y:=5*(k:Int)+5) (hl.mono hx) (by omega) (by omega) (by omega) (by omega)
  have h5:((l.drop (5*k)).take (5*k+5-5*k)).length=5:=by simp;omega
  rw[show 5*k+5-5*k=5 by omega]at hs5 h5
  have hd5:∀w ∈ (l.drop (5*k)).take 5,w<900:=fun w hw=>hd w (List.mem_of_mem_drop (List.mem_of_mem_take hw))
  have hstep:bytS (G-k) (l.drop (5*k))=if 281474976710656≤numB 900 ((l.drop (5*k)).take 5) then none else(bytS (G-(k+1)) (l.drop (5*(k+1)))).map (by6 (numB 900 ((l.drop (5*k)).take 5))++·):=by
   rw[show G-k=(G-(k+1))+1 by omega,bytS,List.drop_drop,show 5*k+5=5*(k+1) by omega]
  replace hstep:False∨_:=.inr hstep
  (try simp only[ctlB])
  refine xHSg ?_
  refine wpH_call0 (fivesP (by omega) hs5 h5 hd5) ?_
  generalize numB 900 ((l.drop (5*k)).take 5)=N at *
  rintro r H2 ⟨hx2,⟨hbig,rfl⟩|⟨hsm,u6,rfl,hs6⟩⟩
  ·have hno:bytS G l=none:=by rw[hb.resolve_left id,hstep.resolve_left id,if_pos hbig];rfl
   rw[hno]
   (try simp only[ctlB])
   repeat' ((first|refine xSSg ?_|refine xOSg rfl ?_);(try simp only[ctlB]))
   refine xCSg (fun h=>?_) (fun h=>?_)
   ·clear h
    (try simp only[ctlB])
    repeat' ((first|refine xSSg ?_|refine xOSg rfl ?_);(try simp only[ctlB]))
    refine xRSg ?_
    exact⟨hx.trans hx2,_,rfl,.inl ⟨rfl,rfl⟩⟩
   ·simp at h
  ·have hx21:=hx2.1
   have hsix:(by6 N).length=6:=rfl
   (try simp only[ctlB])
   repeat' ((first|refine xSSg ?_|refine xOSg rfl ?_);(try simp only[ctlB]))
   refine xCSg (fun h=>?_) (fun h=>?_)
   ·simp at h
   clear h
   (try simp only[ctlB])
   refine xHSg ?_
   refine wpH_appS (A:=H.length) one_encU1 (by omega) hb' (by omega) (ho.mono hx2) hs6 (by omega) ?_
   intro u4 H4 b4 hb4 ho4 hk4
   have hx4:=hk4.ext (hx.trans hx2) hb'
   (try simp only[ctlB])
   repeat' ((first|refine xSSg ?_|refine xOSg rfl ?_);(try simp only[ctlB]))
   refine⟨hx4,u4,b4,t++by6 N,.inr ?_,by simp only[List.length_append];omega,hb4,ho4,exZSb (by first|rfl|(simp only[Int.natCast_add,Int.natCast_one];rfl)|simp only[Int.natCast_add,Int.natCast_one])⟩
   rw[hb.resolve_left id,hstep.resolve_left id,if_neg (by omega)]
   cases bytS (G-(k+1)) (l.drop (5*(k+1)))<;>simp
 ·rintro S H' ⟨hx,u,b',t,hb,ht,hb',ho,z,rfl⟩
  have hx1:=hx.1
  rw[Nat.sub_self]at hb
  have e5G:(5:Int)*(G:Nat)=((5*G:Nat):Int):=by omega
  (try simp only[ctlB])
  repeat' ((first|refine xSSg ?_|refine xOSg rfl ?_);(try simp only[ctlB]))
  refine aw_for (fun i S H'=>Ext H H'∧∃(u:Value) (b':Nat),H.length≤b'∧(∀j,j<i→l.getD (5*G+j) 0≤255)∧Own lo 1 H' u b' ((t++((l.drop (5*G)).take i).map UInt8.ofNat).map encU)∧∃(z:Nat→Value),S=[.int .i64 (mode:Nat),.slice ad l.length c0,.slice none 0 0,.int .i64 0,z 4,z 5,z 6,u,z 8,z 9,z 10,.int .i64 ((5*G+i:Nat):Int),z 12,z 13,z 14,z 15,z 16,z 17,z 18]) (l.length-5*G) ?_ ?_ ?_ ?_
  ·exact⟨hx,u,b',hb',fun j hj=>by omega,by simpa using ho,exZSb rfl⟩
  ·rintro i S H' hi ⟨hx,u,b',hb',hall,ho,z,rfl⟩
   exact⟨_,xESg,by simp;omega⟩
  ·rintro i S H' hi ⟨hx,u,b',hb',hall,ho,z,rfl⟩
   have hx1:=hx.1
   obtain⟨b0,o0,sp0,cap0,xs0,e0,hg0,hx0,hle0⟩:=(hl.mono hx).els 0 (by omega)
   cases e0
   have hxa:=hx0 (5*G+i) (by omega)
   clear hx0
   (try simp only[ctlB])
   refine xCSg (fun h=>?_) (fun h=>?_)
   ·have hbig:255<l.getD (5*G+i) 0:=by simp only[decide_eq_true_eq]at h;omega
    clear h
    have hno:bytS G l=none:=by
     rw[hb.resolve_left id,bytS,if_neg]
     ·rfl
     ·rw[List.all_eq_true]
      intro hc
      have:=of_decide_eq_true (hc (l.getD (5*G+i) 0) (by rw[List.getD_eq_getElem?_getD,←List.getElem?_drop,List.getElem?_eq_getElem (by simp;omega)];exact List.getElem_mem _))
      omega
    rw[hno]
    (try simp only[ctlB])
    repeat' ((first|refine xSSg ?_|refine xOSg rfl ?_);(try simp only[ctlB]))
    refine xRSg ?_
    exact⟨hx,_,rfl,.inl ⟨rfl,rfl⟩⟩
   have hsm:l.getD (5*G+i) 0≤255:=by simp only[decide_eq_false_iff_not]at h;omega
   clear h
   have htk:((l.drop (5*G)).take (i+1)).map UInt8.ofNat=((l.drop (5*G)).take i).map UInt8.ofNat++[UInt8.ofNat (l.getD (5*G+i) 0)]:=by
    rw[List.take_add_one,List.getElem?_drop,List.getElem?_eq_getElem (by omega),List.getD_eq_getElem?_getD,List.getElem?_eq_getElem (by omega)]
    simp only[List.map_append,Option.toList_some,List.map_cons,List.map_nil,Option.getD_some]
   have hall2:∀j,j<i+1→l.getD (5*G+j) 0≤255:=fun j hj=>by
    by_cases e:j=i
    ·subst e;exact hsm
    ·exact hall j (by omega)
   have hob2:(t++((l.drop (5*G)).take i).map UInt8.ofNat).length≤1000000:=by simp;omega
   rw[htk,←List.append_assoc]
   clear hall htk
   generalize l.getD (5*G+i) 0=X at *
   (try simp only[ctlB])
   repeat' ((first|refine xSSg ?_|refine xOSg rfl ?_);(try simp only[ctlB]))
   rw[show Value.int .u8 (X:Nat)=encU (UInt8.ofNat X) by
    simp only[encU,UInt8.toNat_ofNat']
    rw[Nat.mod_eq_of_lt (by omega)]]
   refine xHSg ?_
   refine app_byte (by omega) hx hb' ho hob2 ?_
   intro a4 m4 H4 hx4 hl4 hk4 ho4
   clear ho hob2
   (try simp only[ctlB])
   repeat' ((first|refine xSSg ?_|refine xOSg rfl ?_);(try simp only[ctlB]))
   exact⟨hx4,_,_,by omega,hall2,ho4,exZSb (by rw[show((5*G+i:Nat):Int)+1=((5*G+(i+1):Nat):Int) by omega];rfl)⟩
  ·rintro S H' ⟨hx,u,b',hb',hall,ho,z,rfl⟩
   have hyes:bytS G l=some (t++(l.drop (5*G)).map UInt8.ofNat):=by
    rw[hb.resolve_left id,bytS,if_pos]
    ·rfl
    ·rw[List.all_eq_true]
     intro w hw3
     obtain⟨j,hj,rfl⟩:=List.getElem_of_mem hw3
     rw[List.length_drop]at hj
     have:=hall j (by omega)
     rw[List.getD_eq_getElem?_getD,List.getElem?_eq_getElem (by omega)]at this
     rw[List.getElem_drop]
     exact decide_eq_true this
   rw[hyes]
   rw[List.take_of_length_le (by simp)]at ho
   (try simp only[ctlB])
   repeat' ((first|refine xSSg ?_|refine xOSg rfl ?_);(try simp only[ctlB]))
   refine xRSg ?_
   exact⟨hx,_,rfl,Sl.ofOwn ho⟩
theorem decG_both(n w:Nat)(r:List Nat)(sub shift:Nat)(out:List UInt8)(h:w<900):decG (n+1) (w::r) sub shift out=match bothS w sub shift with
  | none=>([],22)
  | some (t,x,y)=>decG n r x y (out++t):=by
 rw[decG_cons,if_pos h,bothS]
 rcases stp sub shift (w/30)with-| ⟨c,x,y⟩
 ·rfl
 ·simp only
  rcases stp x y (w%30)with-| ⟨c2,x2,y2⟩
  ·rfl
  ·simp only[List.append_assoc]
theorem bothS_ok{c sub shift x y:Nat}{t:List UInt8}(hc:c<900)(h1:sub<4)(h2:shift<3)(h:bothS c sub shift=some (t,x,y)):x<4∧y<3∧t.length≤2:=by
 unfold bothS at h
 split at h
 ·cases h
 ·rename_i c1 a b hs
  have k1:=stp_ok h1 h2 (show c/30<30 by omega) hs
  split at h
  ·cases h
  ·rename_i c2 a2 b2 hs2
   have k2:=stp_ok k1.2.2.1 k1.2.2.2 (Nat.mod_lt c (by decide)) hs2
   injection h with h
   injection h with h h3
   injection h3 with h3 h4
   subst h h3 h4
   have hch:∀c,(chS c).length≤1:=fun c=>by unfold chS;split<;>simp
   have:=hch c1
   have:=hch c2
   exact⟨k2.2.2.1,k2.2.2.2,by rw[List.length_append];omega⟩
theorem rdecodeP{lo:Nat}{H:Heap}{v:Value}{l:List Int}(hlo:lo≤H.length)(hl:SlI H v l) :
  Ev cp lo 19 [v] H (fun r H'=>Ext H H'∧IsDec H' r (decT l)):=by
 have hl0:=hl
 obtain⟨ad,c0,rfl⟩:=hl.len
 rw[decT_eq]
 refine st19 ?_;unfold bd19 cf19;simp only[kB,ctlB]
 repeat' ((first|refine xSSg ?_|refine xOSg rfl ?_);(try simp only[ctlB]))
 refine xCSg (fun h=>?_) (fun h=>?_)
 ·have hc:8192<l.length:=by simp only[decide_eq_true_eq]at h;omega
  clear h
  rw[if_pos hc]
  (try simp only[ctlB])
  repeat' ((first|refine xSSg ?_|refine xOSg rfl ?_);(try simp only[ctlB]))
  refine xRSg ?_
  exact⟨Ext.refl _,_,rfl,.inl ⟨rfl,rfl⟩⟩
 have hc:l.length≤8192:=by simp only[decide_eq_false_iff_not]at h;omega
 clear h
 rw[if_neg (by omega)]
 (try simp only[ctlB])
 repeat' ((first|refine xSSg ?_|refine xOSg rfl ?_);(try simp only[ctlB]))
 refine aw_for (fun i S H'=>H=H'∧(∀j,j<i→okD (l.getD j 0)=true)∧∃(z:Nat→Value),S=[.slice ad l.length c0,.slice none 0 0,.int .i64 0,.int .i64 (i:Nat),z 4,z 5,z 6,z 7,z 8,z 9,z 10,z 11,z 12,z 13,z 14,z 15,z 16,z 17,z 18,z 19,z 20,z 21,z 22,z 23]) l.length ?_ ?_ ?_ ?_
 ·exact⟨rfl,fun j hj=>by omega,exZSb rfl⟩
 ·rintro i S H' hi ⟨rfl,-,z,rfl⟩
  exact⟨_,xESg,by simp⟩
 ·rintro i S H' hi ⟨rfl,hall,z,rfl⟩
  obtain⟨b0,o0,sp0,cap0,xs0,e0,hg0,hx0,hle0⟩:=hl.els 0 (by omega)
  cases e0
  have hxa:=hx0 i hi
  (try simp only[ctlB])
  refine xCSg (fun h=>?_) (fun h=>?_)
  ·have hno:okD (l.getD i 0)=false:=by
    simp only[Bool.or_eq_true,decide_eq_true_eq]at h
    simp only[okD,Bool.and_eq_false_iff,decide_eq_false_iff_not];omega
   clear h
   rw[not_okD hi hno]
   clear hg0 hx0 hxa hle0
   (try simp only[ctlB])
   repeat' ((first|refine xSSg ?_|refine xOSg rfl ?_);(try simp only[ctlB]))
   refine xRSg ?_
   exact⟨Ext.refl _,_,rfl,.inl ⟨rfl,rfl⟩⟩
  ·have hyes:okD (l.getD i 0)=true:=by
    simp only[Bool.or_eq_false_iff,decide_eq_false_iff_not]at h
    simp only[okD,Bool.and_eq_true,decide_eq_true_eq];omega
   clear h
   (try simp only[ctlB])
   repeat' ((first|refine xSSg ?_|refine xOSg rfl ?_);(try simp only[ctlB]))
   refine⟨by trivial,fun j hj=>?_,exZSb (by first|rfl|(simp only[Int.natCast_add,Int.natCast_one];rfl)|simp only[Int.natCast_add,Int.natCast_one])⟩
   by_cases e:j=i
   ·subst e;exact hyes
   ·exact hall j (by omega)
 ·rintro S H' ⟨rfl,hall,z,rfl⟩
  have hall:=all_okD hall
  rw[hall]
  have hmem:=List.all_eq_true.1 hall
  have hr:∀w ∈ l,0≤w∧w≤928:=fun w hw=>by
   have:=hmem w hw
   simpa only[okD,Bool.and_eq_true,decide_eq_true_eq]using this
  have hw928:∀w ∈ l.map Int.toNat,w≤928:=fun w hw=>by
   obtain⟨x,hx,rfl⟩:=List.mem_map.1 hw
   have:=hr x hx
   omega
  have hsl:=sl_nat hl fun w hw=>(hr w hw).1
  have hln:l.length=(l.map Int.toNat).length:=by simp
  rw[if_pos rfl]
  generalize l.map Int.toNat=ws at *
  rw[hln]at hsl hc
  rw[hln]
  clear hln hall hmem hr hl hl0
  (try simp only[ctlB])
  repeat' ((first|refine xSSg ?_|refine xOSg rfl ?_);(try simp only[ctlB]))
  refine aw_loop' (fun m S H'=>Ext H H'∧∃(n pos sub shift:Nat) (u:Value) (b':Nat) (out:List UInt8),m+pos=ws.length∧ws.length+1≤n+pos∧sub<4∧shift<3∧out.length≤44*pos∧(False∨decG (ws.length+1) ws 0 0 []=decG n (ws.drop pos) sub shift out)∧H.length≤b'∧Own lo 1 H' u b' (out.map encU)∧∃(z:Nat→Value),S=[.slice ad ws.length c0,z 1,z 2,z 3,u,.int .i64 (sub:Nat),.int .i64 (shift:Nat),.int .i64 (pos:Nat),z 8,z 9,z 10,z 11,z 12,z 13,z 14,z 15,z 16,z 17,z 18,z 19,z 20,z 21,z 22,z 23]) ws.length ?_ ?_
  ·exact⟨Ext.refl _,ws.length+1,0,0,0,_,H.length,[],by omega,by omega,by omega,by omega,by simp,.inr rfl,Nat.le_refl _,Own.nil hlo,exZSb rfl⟩
  rintro m S H' ⟨hx,n,pos,sub,shift,u,b',out,hm,hn,hs1,hs2,hout,hd,hb',ho,z,rfl⟩
  have hx1:=hx.1
  (try simp only[ctlB])
  refine xCSg (fun h=>?_) (fun h=>?_)
  ·have hlt:pos<ws.length:=by simp only[decide_eq_true_eq]at h;omega
   clear h
   obtain⟨n,rfl⟩:∃k,n=k+1:=⟨n-1,by omega⟩
   obtain⟨b0,o0,sp0,cap0,xs0,e0,hg0,hx0,hle0⟩:=(hsl.mono hx).els 0 (by omega)
   cases e0
   have hxa:=hx0 pos hlt
   clear hx0
   have hdr:ws.drop pos=ws.getD pos 0::ws.drop (pos+1):=by
    rw[List.drop_eq_getElem_cons hlt,List.getD_eq_getElem?_getD,List.getElem?_eq_getElem hlt];rfl
   have hwp:ws.getD pos 0≤928:=by
    rw[List.getD_eq_getElem?_getD,List.getElem?_eq_getElem hlt];exact hw928 _ (List.getElem_mem hlt)
   rw[hdr]at hd
   clear hdr
   generalize ws.getD pos 0=w at *
   have epos:(pos:Int)+1=((pos+1:Nat):Int):=by omega
   (try simp only[ctlB])
   repeat' ((first|refine xSSg ?_|refine xOSg rfl ?_);(try simp only[ctlB]))
   refine xCSg (fun h=>?_) (fun h=>?_)
   ·have e:w<900:=by simp only[decide_eq_true_eq]at h;omega
    clear h
    (try simp only[ctlB])
    refine xHSg ?_
    refine wpH_call0 (bothP (by omega) e hs1 hs2) ?_
    rintro r H2 ⟨hx2,⟨hno,rfl⟩|⟨t,x,y,v2,hyes,rfl,hv2⟩⟩
    ·(try simp only[ctlB])
     repeat' ((first|refine xSSg ?_|refine xOSg rfl ?_);(try simp only[ctlB]))
     refine xCSg (fun h=>?_) (fun h=>?_)
     ·clear h
      rw[hd.resolve_left id,decG_both _ _ _ _ _ _ e,hno]
      clear hd
      (try simp only[ctlB])
      repeat' ((first|refine xSSg ?_|refine xOSg rfl ?_);(try simp only[ctlB]))
      refine xRSg ?_
      exact⟨hx.trans hx2,_,rfl,.inl ⟨rfl,rfl⟩⟩
     ·simp at h
    ·have hok:=bothS_ok e hs1 hs2 hyes
     have hdn:decG (ws.length+1) ws 0 0 []=decG n (ws.drop (pos+1)) x y (out++t):=by
      rw[hd.resolve_left id,decG_both _ _ _ _ _ _ e,hyes]
     replace hdn:False∨_:=.inr hdn
     have hx21:=hx2.1
     clear hd hyes
     (try simp only[ctlB])
     repeat' ((first|refine xSSg ?_|refine xOSg rfl ?_);(try simp only[ctlB]))
     refine xCSg (fun h=>?_) (fun h=>?_)
     ·simp at h
     clear h
     (try simp only[ctlB])
     refine xHSg ?_
     refine wpH_appS (A:=H.length) one_encU1 (by omega) hb' (by omega) (ho.mono hx2) hv2 (by omega) ?_
     intro u4 H4 b4 hb4 ho4 hk4
     have hx4:=hk4.ext (hx.trans hx2) hb'
     clear ho hk4
     (try simp only[ctlB])
     repeat' ((first|refine xSSg ?_|refine xOSg rfl ?_);(try simp only[ctlB]))
     simp only[loopQ_n]
     exact⟨m-1,by omega,hx4,n,pos+1,x,y,u4,b4,out++t,by omega,by omega,hok.1,hok.2.1,by rw[List.length_append];omega,hdn,hb4,ho4,exZSb rfl⟩
   have h9:¬ (w<900):=by simp only[decide_eq_false_iff_not]at h;omega
   clear h
   (try simp only[ctlB])
   repeat' ((first|refine xSSg ?_|refine xOSg rfl ?_);(try simp only[ctlB]))
   refine xCSg (fun h=>?_) (fun h=>?_)
   ·have e:w=900:=by simp only[decide_eq_true_eq]at h;omega
    clear h
    have hdn:decG (ws.length+1) ws 0 0 []=decG n (ws.drop (pos+1)) 0 0 out:=by
     rw[hd.resolve_left id,decG_cons,if_neg h9,if_pos e]
    replace hdn:False∨_:=.inr hdn
    clear hd
    (try simp only[ctlB])
    repeat' ((first|refine xSSg ?_|refine xOSg rfl ?_);(try simp only[ctlB]))
    simp only[loopQ_n]
    exact⟨m-1,by omega,hx,n,pos+1,0,0,u,b',out,by omega,by omega,by omega,by omega,by omega,hdn,hb',ho,exZSb rfl⟩
   have h900:¬ (w=900):=by simp only[decide_eq_false_iff_not]at h;omega
   clear h
   (try simp only[ctlB])
   refine xCSg (fun h=>?_) (fun h=>?_)
   ·have e:w=913:=by simp only[decide_eq_true_eq]at h;omega
    clear h
    have hdn:decG (ws.length+1) ws 0 0 []=match ws.drop (pos+1)with
      | []=>([],10)
      | z::r2=>if 255<z then([],22) else decG n r2 sub 0 (out++[UInt8.ofNat z]):=by
     rw[hd.resolve_left id,decG_cons,if_neg h9,if_neg h900,if_pos e]
     cases ws.drop (pos+1)<;>rfl
    clear hd h9 h900
    subst e
    (try simp only[ctlB])
    refine xCSg (fun h=>?_) (fun h=>?_)
    ·have e:pos+1=ws.length:=by simp only[decide_eq_true_eq]at h;omega
     clear h
     rw[hdn,List.drop_eq_nil_of_le (by omega)]
     clear hdn e
     (try simp only[ctlB])
     repeat' ((first|refine xSSg ?_|refine xOSg rfl ?_);(try simp only[ctlB]))
     refine xRSg ?_
     exact⟨hx,_,rfl,.inl ⟨rfl,rfl⟩⟩
    have hlt2:pos+1<ws.length:=by simp only[decide_eq_false_iff_not]at h;omega
    clear h
    obtain⟨b1,o1,sp1,cap1,xs1,e1,hg1,hx01,hle1⟩:=(hsl.mono hx).els 0 (by omega)
    have hb1:b1=b0∧o1=o0:=by injection e1 with q1 q2 q3;injection q1 with q1;injection q1 with q1 q2 q3;exact⟨q1.symm,q2.symm⟩
    obtain⟨rfl,rfl⟩:=hb1
    rw[hg1]at hg0
    injection hg0 with hg0
    subst hg0
    have hxa2:=hx01 (pos+1) hlt2
    have hdr:ws.drop (pos+1)=ws.getD (pos+1) 0::ws.drop (pos+1+1):=by
     rw[List.drop_eq_getElem_cons hlt2,List.getD_eq_getElem?_getD,List.getElem?_eq_getElem hlt2];rfl
    rw[hdr]at hdn
    simp only at hdn
    clear hdr hx01 e1
    generalize ws.getD (pos+1) 0=y at *
    replace hdn:False∨_:=.inr hdn
    (try simp only[ctlB])
    refine xCSg (fun h=>?_) (fun h=>?_)
    ·have hbig:255<y:=by simp only[decide_eq_true_eq]at h;omega
     clear h
     rw[hdn.resolve_left id,if_pos hbig]
     clear hdn
     (try simp only[ctlB])
     repeat' ((first|refine xSSg ?_|refine xOSg rfl ?_);(try simp only[ctlB]))
     refine xRSg ?_
     exact⟨hx,_,rfl,.inl ⟨rfl,rfl⟩⟩
    have hsm:y≤255:=by simp only[decide_eq_false_iff_not]at h;omega
    clear h
    rw[if_neg (by omega)]at hdn
    (try simp only[ctlB])
    repeat' ((first|refine xSSg ?_|refine xOSg rfl ?_);(try simp only[ctlB]))
    rw[show Value.int .u8 (y:Nat)=encU (UInt8.ofNat y) by
     simp only[encU,UInt8.toNat_ofNat']
     rw[Nat.mod_eq_of_lt (by omega)]]
    refine xHSg ?_
    refine app_byte (by omega) hx hb' ho (by omega) ?_
    intro a4 m4 H4 hx4 hl4 hk4 ho4
    clear ho
    (try simp only[ctlB])
    repeat' ((first|refine xSSg ?_|refine xOSg rfl ?_);(try simp only[ctlB]))
    simp only[loopQ_n]
    exact⟨m-2,by omega,hx4,n,pos+1+1,sub,0,_,_,out++[UInt8.ofNat y],by omega,by omega,hs1,by omega,by rw[List.length_append,List.length_singleton];omega,hdn,by omega,ho4,exZSb (by first|rfl|(simp only[Int.natCast_add,Int.natCast_one];rfl)|simp only[Int.natCast_add,Int.natCast_one])⟩
   have h913:¬ (w=913):=by simp only[decide_eq_false_iff_not]at h;omega
   clear h
   (try simp only[ctlB])
   refine xCSg (fun h=>?_) (fun h=>?_)
   ·have e:w=901∨w=902∨w=924:=by simp only[Bool.or_eq_true,decide_eq_true_eq]at h;omega
    clear h
    have hdn:=hd.resolve_left id
    rw[decG_rn e]at hdn
    replace hdn:False∨_:=.inr hdn
    clear hd
    obtain⟨sa,hca,hsa⟩:=sl_advG (hsl.mono hx) (n:=pos+1) (by omega)
    have hdl:=dataS_len (ws.drop (pos+1))
    have hdt:=dataS_take (ws.drop (pos+1))
    have hdlt:=@dataS_lt (ws.drop (pos+1))
    have hdw:(dataS (ws.drop (pos+1))).length≤8192:=by rw[List.length_drop]at hdl;omega
    obtain⟨sb,hcb,hsb⟩:=sl_subG (a:=pos+1) (b:=pos+1+(dataS (ws.drop (pos+1))).length) (x:=((pos+1:Nat):Int)) (y:=((pos+1:Nat):Int)+((dataS (ws.drop (pos+1))).length:Nat)) (hsl.mono hx) (by omega) (by omega) (by omega) (by rw[List.length_drop]at hdl;omega)
    rw[Nat.add_sub_cancel_left,←hdt]at hsb
    have hrl:=@rn_len w (ws.drop (pos+1))
    have hrs:∀q,runS w (dataS (ws.drop (pos+1)))=q→False∨rnS w (ws.drop (pos+1))=if q.2=0 then(if (ws.drop (pos+1+(dataS (ws.drop (pos+1))).length)).head?=some 913 then([],22) else(q.1,0)) else([],q.2):=fun q hq=>by
     refine .inr ?_
     unfold rnS
     rw[hq,List.drop_drop]
    rw[List.drop_drop]at hdn
    clear hdt
    rw[List.length_drop]at hdl
    generalize hK:(dataS (ws.drop (pos+1))).length=K at *
    replace hK:False∨_:=.inr hK
    have hdrl:(ws.drop (pos+1)).length≤8192:=by rw[List.length_drop];omega
    (try simp only[ctlB])
    refine xHSg ?_
    refine wpH_call0 (dataP (by omega) hsa hdrl) ?_
    rintro r H2 ⟨rfl,rfl⟩
    rw[hK.resolve_left id]
    (try simp only[ctlB])
    repeat' ((first|refine xSSg ?_|refine xOSg rfl ?_);(try simp only[ctlB]))
    refine xHSg ?_
    refine wpH_call0 (rrunP (mode:=w) (by omega) hsb (by rw[hK.resolve_left id];exact hdw) hdlt e) ?_
    rintro r H4 ⟨hx4,v4,rfl,hv4⟩
    rcases hq:runS w (dataS (ws.drop (pos+1)))with ⟨t,e4⟩
    have hrn:=hrs _ hq
    have htl:e4=0→t.length≤44*K:=fun h0=>by
     subst h0
     have:=runS_len hq
     rw[hK.resolve_left id]at this
     exact this
    rw[hq]at hv4
    simp only at hv4 hrn
    have hx41:=hx4.1
    clear hrs hq hsa hca hsb hcb hdlt
    (try simp only[ctlB])
    repeat' ((first|refine xSSg ?_|refine xOSg rfl ?_);(try simp only[ctlB]))
    refine xCSg (fun h=>?_) (fun h=>?_)
    ·have e0:e4≠0:=by simp only[decide_eq_true_eq]at h;omega
     clear h
     have hrn:=hrn.resolve_left id
     rw[if_neg e0]at hrn
     rw[hdn.resolve_left id,hrn]
     simp only[if_neg e0]
     clear hdn hrn hrl
     (try simp only[ctlB])
     repeat' ((first|refine xSSg ?_|refine xOSg rfl ?_);(try simp only[ctlB]))
     refine xRSg ?_
     exact⟨hx.trans hx4,_,rfl,.inl ⟨rfl,rfl⟩⟩
    have e0:e4=0:=by simp only[decide_eq_false_iff_not]at h;omega
    clear h
    subst e0
    rw[if_pos rfl]at hrn
    have htl:=htl rfl
    (try simp only[ctlB])
    refine xHSg ?_
    refine wpH_appS (A:=H.length) one_encU1 (by omega) hb' (by omega) (ho.mono hx4) hv4 (by omega) ?_
    intro u5 H5 b5 hb5 ho5 hk5
    have hx5:=hk5.ext (hx.trans hx4) hb'
    have ekp:((pos+1:Nat):Int)+(K:Nat)=((pos+1+K:Nat):Int):=by omega
    clear ho hk5
    (try simp only[ctlB])
    repeat' ((first|refine xSSg ?_|refine xOSg rfl ?_);(try simp only[ctlB]))
    have hgo:(ws.drop (pos+1+K)).head?≠some 913→False∨decG (ws.length+1) ws 0 0 []=decG n (ws.drop (pos+1+K)) 0 0 (out++t):=fun h0=>by
     have hrn:=hrn.resolve_left id
     rw[if_neg h0]at hrn
     refine .inr ?_
     rw[hdn.resolve_left id,hrn,if_pos rfl]
    have hstop:(ws.drop (pos+1+K)).head?=some 913→decG (ws.length+1) ws 0 0 []=([],22):=fun h0=>by
     have hrn:=hrn.resolve_left id
     rw[if_pos h0]at hrn
     rw[hdn.resolve_left id,hrn,if_neg (by decide)]
    clear hdn hrn hrl
    have hpk:pos+1+K≤ws.length:=by omega
    generalize hP:pos+1+K=p2 at *
    by_cases hq2:p2<ws.length
    ·obtain⟨b1,o1,sp1,cap1,xs1,e1,hg1,hx01,hle1⟩:=(hsl.mono hx5).els 0 (by omega)
     have hb1:b1=b0∧o1=o0:=by injection e1 with q1 q2 q3;injection q1 with q1;injection q1 with q1 q2 q3;exact⟨q1.symm,q2.symm⟩
     obtain⟨rfl,rfl⟩:=hb1
     have hxa2:=hx01 p2 hq2
     have hh:(ws.drop p2).head?=some (ws.getD p2 0):=by rw[List.head?_drop,List.getD_eq_getElem?_getD,List.getElem?_eq_getElem hq2];rfl
     rw[hh]at hgo hstop
     clear hx01 e1 hh hxa hg0
     generalize ws.getD p2 0=y at *
     (try simp only[ctlB])
     refine xCSg (fun h=>?_) (fun h=>?_)
     ·have e:y=913:=by simp only[Bool.and_eq_true,decide_eq_true_eq]at h;omega
      clear h
      rw[hstop (by rw[e])]
      clear hstop hgo
      (try simp only[ctlB])
      repeat' ((first|refine xSSg ?_|refine xOSg rfl ?_);(try simp only[ctlB]))
      refine xRSg ?_
      exact⟨hx5,_,rfl,.inl ⟨rfl,rfl⟩⟩
     ·have e:y≠913:=by
       intro e
       subst e
       simp only[Bool.and_eq_false_iff,decide_eq_false_iff_not]at h;omega
      clear h
      have hgo:=hgo (by simpa using e)
      clear hstop
      (try simp only[ctlB])
      repeat' ((first|refine xSSg ?_|refine xOSg rfl ?_);(try simp only[ctlB]))
      simp only[loopQ_n]
      exact⟨ws.length-p2,by omega,hx5,n,p2,0,0,u5,b5,out++t,by omega,by omega,by omega,by omega,by rw[List.length_append];omega,hgo,hb5,ho5,exZSb rfl⟩
    ·have hirr:decide (((p2:Nat):Int)<((ws.length:Nat):Int))=false:=by simp;omega
     have hgo:=hgo (by rw[List.drop_eq_nil_of_le (by omega)];simp)
     clear hstop
     (try simp only[ctlB])
     refine aw_cond (t:=false) (by simp(disch:=first|omega|(simp only[lenB];omega))only[evB,xBSg,Nat.reduceAdd,Nat.reduceBEq,Int.reduceToNat, *];try rfl) (fun h=>by cases h) (fun h=>?_)
     clear h
     (try simp only[ctlB])
     repeat' ((first|refine xSSg ?_|refine xOSg rfl ?_);(try simp only[ctlB]))
     simp only[loopQ_n]
     exact⟨ws.length-p2,by omega,hx5,n,p2,0,0,u5,b5,out++t,by omega,by omega,by omega,by omega,by rw[List.length_append];omega,hgo,hb5,ho5,exZSb rfl⟩
   ·have e:¬ (w=901∨w=902∨w=924):=by simp only[Bool.or_eq_false_iff,decide_eq_false_iff_not]at h;omega
    clear h
    rw[hd.resolve_left id,decG_cons,if_neg h9,if_neg h900,if_neg h913,if_neg e]
    clear hd
    (try simp only[ctlB])
    repeat' ((first|refine xSSg ?_|refine xOSg rfl ?_);(try simp only[ctlB]))
    refine xRSg ?_
    exact⟨hx,_,rfl,.inl ⟨rfl,rfl⟩⟩
  ·have hlt:pos=ws.length:=by simp only[decide_eq_false_iff_not]at h;omega
   clear h
   have hfin:decG n (ws.drop pos) sub shift out=(out,0):=by
    obtain⟨n,rfl⟩:∃m,n=m+1:=⟨n-1,by omega⟩
    rw[List.drop_eq_nil_of_le (by omega),decG]
   rw[hd.resolve_left id,hfin]
   clear hd hm hn hs1 hs2 hout hfin
   (try simp only[ctlB])
   repeat' ((first|refine xSSg ?_|refine xOSg rfl ?_);(try simp only[ctlB]))
   refine xRSg ?_
   exact⟨hx,_,rfl,Sl.ofOwn ho⟩
end Go.Proofs.YtgpolmomghejoaaDoor
