/- Lemmas. -/
import Derived.Test.YtgiojnobcjnibaaGreatDoorP13
set_option linter.unusedVariables false
set_option linter.unusedSimpArgs false
set_option linter.unusedSectionVars false
namespace Go.Proofs.YtgiojnobcjnibaaGreatDoor
open Go.Abs
set_option maxRecDepth 20000
theorem rowTab{k:Nat}(hk:k≤8):RowT tabV k:=by
 refine⟨lenTab,fun i hi=>?_⟩
 rw[tabV,List.getElem?_map,←tabL_eq,List.getElem?_map,List.getElem?_range (by omega)]
 simp only[Option.map_some]
 rw[tabN_row hi];rfl
def pcs(f:Nat→Nat)(k:Nat):List Value:=(List.range 8).map fun i=>.int .i64 ((if i<k then f i else 0:Nat):Int)
theorem pcs_len(f:Nat→Nat)(k:Nat):(pcs f k).length=8:=by simp[pcs]
theorem pcs_set(f:Nat→Nat){k:Nat}(hk:k<8):(pcs f k).set k (.int .i64 ((f k:Nat):Int))=pcs f (k+1):=by
 refine List.ext_getElem? fun i=>?_
 by_cases hi:i<8
 ·by_cases e:i=k
  ·subst e
   rw[List.getElem?_set_self (by rw[pcs_len];exact hi)]
   simp[pcs,hi]
  ·rw[List.getElem?_set_ne (fun q=>e q.symm)]
   simp only[pcs,List.getElem?_map,List.getElem?_range hi,Option.map_some]
   by_cases h:i<k
   ·rw[if_pos h,if_pos (by omega)]
   ·rw[if_neg h,if_neg (by omega)]
 ·rw[List.getElem?_eq_none (by rw[List.length_set,pcs_len];omega),List.getElem?_eq_none (by rw[pcs_len];omega)]
theorem pcs0(f:Nat→Nat):intL [0,0,0,0,0,0,0,0]=pcs f 0:=rfl
theorem get_old{H:Heap}{b:Nat}{c:List Value}{x:Option (List Value)}(h:H.get b=some c):Heap.get (H++[x]) b=some c:=(Ext.push H x).get h
theorem xTUc{cp:FuncId→Option CF}{lo:Nat}{l:List (Nat×E)}{chk:List E}{Q:Post}{S:List Value}{H:Heap}{vs:List (Nat×Value)}{dst:Option Nat}{o:HOp}{a:E}{xs:List Value}{pc:PC}(k:wpH cp lo o xs H fun v H'=>Q .normal (setD (setAll S vs) dst v) H')(h:evSets S H l=some vs:=by exact xETf)(hc:evChk S H chk=true:=by simp(disch:=first|omega|(simp only[lenB];omega))only[evB,xBTf,Nat.reduceAdd,Nat.reduceMul,Nat.reduceBEq,Int.reduceToNat,Int.reduceEq,Int.reduceNe, *])(hp:holds S H pc=some true:=by simp(disch:=first|omega|(simp only[lenB];omega))only[evB,xBTf,Nat.reduceAdd,Nat.reduceMul,Nat.reduceBEq,Int.reduceToNat,Int.reduceEq,Int.reduceNe, *];try rfl)(ha:ev S H a=some xs:=by exact xETf):wpS cp lo (.hv l chk pc dst o a) Q S H:=aw_hvT h hc hp ha k
theorem patternP{lo b:Nat}{H:Heap}{c v:Nat}(hlo:lo≤H.length)(hg:H.get b=some tabV)(h0:v<wyN 0 17 c)(hc:c<9) :
  Ev cp lo 24 [.pointer (some ⟨b,0,none⟩),.int .i64 (c:Nat),.int .i64 (v:Nat)] H (fun r H'=>r=.slice (some ⟨H.length,0,none⟩) 8 8∧H'=H++[some (pcs (wA c v) 8)]):=by
 have e8:=pcs0 (wA c v)
 have hv0:wyN 0 17 c≤1000000:=wyL_le _ _
 refine st24 ?_;unfold bd24 cf24;simp only[kB,ctlB]
 repeat' ((first|refine xSTf ?_|refine xOTf rfl ?_);(try simp only[ctlB]))
 clear e8
 refine aw_for (fun k S H'=>H'=H++[some (pcs (wA c v) k)]∧∃(z:Nat→Value),S=[.pointer (some ⟨b,0,none⟩),.int .i64 (((stA c v k).c:Nat):Int),.int .i64 (((stA c v k).v:Nat):Int),z 3,.slice (some ⟨H.length,0,none⟩) 8 8,.int .i64 (((stA c v k).s:Nat):Int),z 6,z 7,z 8,.int .i64 (8:Nat),.int .i64 (k:Nat),z 11,z 12,z 13,z 14,z 15,z 16]) 8 ?_ ?_ ?_ ?_
 ·exact⟨rfl,exZTd rfl⟩
 ·rintro k S H' hk ⟨rfl,z,rfl⟩
  exact⟨_,xETf,by simp;omega⟩
 ·rintro k S H' hk ⟨rfl,z,rfl⟩
  have hok:=okA h0 hc k (by omega)
  have hsix:=hok.six hk
  obtain⟨hw1,-⟩:=hok.w hk
  have hiff:=fun w=>pw_iff (w:=w) hsix
  obtain⟨hp1,hp6⟩:=pw_le k (stA c v k).s (stA c v k).c (stA c v k).v
  have hwd:wA c v k=pw k (stA c v k).s (stA c v k).c (stA c v k).v:=rfl
  have hn:stA c v (k+1)=nxt k (stA c v k):=rfl
  have hs8:=hok.s
  have hc9:=hok.c
  have hxb:(stA c v k).v≤6000000:=Nat.le_of_lt (Nat.lt_of_lt_of_le hsix (sumW_le _ _ _ 6))
  have hlen:=pcs_len (wA c v) k
  have hps:=pcs_set (wA c v) hk
  rw[hn,hwd]at *
  unfold nxt
  generalize wA c v=f at *
  generalize stA c v k=t at *
  obtain⟨x,s,d⟩:=t
  simp only at *
  generalize pw k s d x=P at *
  have hlow:sumW k s d (P-1)≤x:=(hiff (P-1)).1 (by omega)
  have hsl:=set_last H (some (pcs f k)) (some (pcs f (k+1)))
  have hgl:Heap.get (H++[some (pcs f k)]) H.length=some (pcs f k):=get_push_self _ _
  have hgb:=get_old (x:=some (pcs f k)) hg
  have hrow:=rowTab (k:=k+1) (by omega)
  generalize pcs f (k+1)=C1 at *
  generalize pcs f k=C0 at *
  clear hok hsix hn hwd hv0 h0
  replace hiff:False∨_:=.inr hiff
  (try simp only[ctlB])
  repeat' ((first|refine xSTf ?_|refine xOTf rfl ?_);(try simp only[ctlB]))
  refine aw_loop' (fun m S H'=>H'=H++[some C0]∧∃w,1≤w∧w≤P∧m=P-w∧∃(z:Nat→Value),S=[.pointer (some ⟨b,0,none⟩),.int .i64 (d:Nat),.int .i64 ((x-sumW k s d (w-1):Nat):Int),z 3,.slice (some ⟨H.length,0,none⟩) 8 8,.int .i64 (s:Nat),.int .i64 (k:Nat),.int .i64 (w:Nat),z 8,.int .i64 (8:Nat),.int .i64 (k:Nat),z 11,z 12,z 13,z 14,z 15,z 16]) (P-1) ?_ ?_
  ·exact⟨rfl,1,by omega,by omega,rfl,exZTd rfl⟩
  rintro m S H' ⟨rfl,w,w1,wP,rfl,z,rfl⟩
  have hstep:=sumW_step (k:=k) (s:=s) (c:=d) w1
  have hb:=(behindP (lo:=lo) hgb hrow hk hs8 hc9 (show w≤6 by omega) w1).sub subT
  have hbl:=bhd_le k s d w
  have hwl:sumW k s d (w-1)≤x:=Nat.le_trans (sumW_mono (by omega)) hlow
  by_cases hwP:w<P
  ·have hge:bhd k s d w≤x-sumW k s d (w-1):=by
    have:=(hiff.resolve_left id w).1 hwP
    omega
   have hnx:((x-sumW k s d (w-1):Nat):Int)-((bhd k s d w:Nat):Int)=((x-sumW k s d (w+1-1):Nat):Int):=by
    rw[Nat.add_sub_cancel,hstep];omega
   have hd:decide (((w:Nat):Int)<6)=true:=decide_eq_true (by omega)
   clear hstep hwl hlow hps hsl hrow
   obtain⟨y,hy⟩:∃y,y=x-sumW k s d (w+1-1):=⟨_,rfl⟩
   have hyb:y≤6000000:=by omega
   have hub:x-sumW k s d (w-1)≤6000000:=by omega
   rw[←hy]at hnx
   replace hy:False∨_:=.inr hy
   generalize x-sumW k s d (w-1)=u at *
   generalize bhd k s d w=bv at *
   (try simp only[ctlB])
   refine xTUc ?_
   refine wpH_call0 hb ?_
   rintro r K ⟨rfl,rfl⟩
   (try simp only[ctlB])
   refine xCTf (fun h=>?_) (fun h=>?_)
   rotate_left
   ·simp at h;omega
   clear h
   (try simp only[ctlB])
   refine xHTf ?_
   refine wpH_call0 hb ?_
   rintro r K ⟨rfl,rfl⟩
   (try simp only[ctlB])
   repeat' ((first|refine xSTf ?_|refine xOTf rfl ?_);(try simp only[ctlB]))
   simp only[loopQ_n]
   exact⟨_,by omega,by trivial,w+1,by omega,by omega,rfl,exZTd (by rw[←hy.resolve_left id];first|rfl|(simp only[Int.natCast_add,Int.natCast_one];rfl))⟩
  ·obtain rfl:w=P:=by omega
   have hlt:x-sumW k s d (w-1)<bhd k s d w:=by
    have:=mt (hiff.resolve_left id w).2 (by omega)
    omega
   clear hstep hwl hlow hrow
   have hsub:((s-w:Nat):Int)=(s:Int)-(w:Nat):=by omega
   generalize x-sumW k s d (w-1)=u at *
   generalize bhd k s d w=bv at *
   by_cases h6:w=6
   ·subst h6
    have hd:decide (((6:Nat):Int)<6)=false:=by decide
    (try simp only[ctlB])
    refine aw_hv_if (t:=false) (xETf) (by simp(disch:=first|omega|(simp only[lenB];omega))only[evB,xBTf,Nat.reduceAdd,Nat.reduceMul,Nat.reduceBEq,Int.reduceToNat,Int.reduceEq,Int.reduceNe, *]) (by simp(disch:=first|omega|(simp only[lenB];omega))only[evB,xBTf,Nat.reduceAdd,Nat.reduceMul,Nat.reduceBEq,Int.reduceToNat,Int.reduceEq,Int.reduceNe, *];try rfl) (fun h=>by cases h) (fun _=>?_)
    (try simp only[ctlB])
    refine xCTf (fun h=>?_) (fun h=>?_)
    ·cases h
    (clear h;(try simp only[ctlB]);(repeat' ((first|refine xSTf ?_|refine xOTf rfl ?_);(try simp only[ctlB])));refine xHTf ?_;refine wpH_call0 ((restP (lo:=lo) hk hc9 (show _≤6 by omega)).sub subT) ?_;rintro r K ⟨rfl,rfl⟩;(try simp only[ctlB]);(repeat' ((first|refine xSTf ?_|refine xOTf rfl ?_);(try simp only[ctlB])));exact⟨by trivial,exZTd (by simp only[Int.natCast_add,Int.natCast_one,hsub];rfl)⟩)
   ·have hd:decide (((w:Nat):Int)<6)=true:=decide_eq_true (by omega)
    (try simp only[ctlB])
    refine xTUc ?_
    refine wpH_call0 hb ?_
    rintro r K ⟨rfl,rfl⟩
    (try simp only[ctlB])
    refine xCTf (fun h=>?_) (fun h=>?_)
    ·simp at h;omega
    clear hd
    (clear h;(try simp only[ctlB]);(repeat' ((first|refine xSTf ?_|refine xOTf rfl ?_);(try simp only[ctlB])));refine xHTf ?_;refine wpH_call0 ((restP (lo:=lo) hk hc9 (show _≤6 by omega)).sub subT) ?_;rintro r K ⟨rfl,rfl⟩;(try simp only[ctlB]);(repeat' ((first|refine xSTf ?_|refine xOTf rfl ?_);(try simp only[ctlB])));exact⟨by trivial,exZTd (by simp only[Int.natCast_add,Int.natCast_one,hsub];rfl)⟩)
 rintro S H' ⟨rfl,z,rfl⟩
 (try simp only[ctlB])
 repeat' ((first|refine xSTf ?_|refine xOTf rfl ?_);(try simp only[ctlB]))
 refine xRTf ?_
 exact⟨rfl,rfl⟩
theorem ints{lo:Nat}{H:Heap}{va vb:Value}{a b:List Int}(ha:SlI H va a)(hb:SlI H vb b)(hsm:a.length≤1000000000)(hbm:b.length≤1000000000):Ev cp lo 14 [va,vb] H (fun v H'=>H'=H∧v=.bool (decide (a=b))):=by
 have ha0:=ha
 have hb0:=hb
 obtain⟨ada,ca,rfl⟩:=ha.len
 obtain⟨adb,cb,rfl⟩:=hb.len
 refine st14 ?_;unfold bd14 cf14;simp only[kB,ctlB]
 repeat' ((first|refine xSTf ?_|refine xOTf rfl ?_);(try simp only[ctlB]))
 refine xCTf (fun h=>?_) (fun h=>?_)
 ·have hne:¬ a=b:=by
   rintro rfl;simp at h
  clear h
  (try simp only[ctlB])
  repeat' ((first|refine xSTf ?_|refine xOTf rfl ?_);(try simp only[ctlB]))
  refine xRTf ?_
  exact⟨rfl,by simp[resultOf,hne]⟩
 have hlen:a.length≤b.length∧b.length≤a.length:=by simp at h;omega
 clear h
 (try simp only[ctlB])
 repeat' ((first|refine xSTf ?_|refine xOTf rfl ?_);(try simp only[ctlB]))
 refine aw_for (fun i S H'=>H=H'∧(∀j,j<i→a.getD j 0=b.getD j 0)∧S=[.slice ada a.length ca,.slice adb b.length cb,.bool false,.int .i64 (i:Nat)]) a.length ?_ ?_ ?_ ?_
 ·exact⟨rfl,by omega,rfl⟩
 ·rintro i S H' hi ⟨rfl,-,rfl⟩
  exact⟨_,xETf,by simp⟩
 ·rintro i S H' hi ⟨rfl,hall,rfl⟩
  obtain⟨xb,xo,xsp,xc,xs,e1,g1,f1,l1⟩:=ha0.els 0 (by omega)
  obtain⟨yb,yo,ysp,yc,ys,e2,g2,f2,l2⟩:=hb0.els 0 (by omega)
  cases e1
  cases e2
  have k1:=f1 i hi
  have k2:=f2 i (by omega)
  clear f1 f2
  (try simp only[ctlB])
  refine xCTf (fun h=>?_) (fun h=>?_)
  ·have hne:¬ a=b:=by
    rintro rfl;simp at h
   clear h
   (try simp only[ctlB])
   repeat' ((first|refine xSTf ?_|refine xOTf rfl ?_);(try simp only[ctlB]))
   refine xRTf ?_
   exact⟨rfl,by simp[resultOf,hne]⟩
  ·have he:a.getD i 0=b.getD i 0:=by simpa using h
   clear h k1 k2
   (try simp only[ctlB])
   repeat' ((first|refine xSTf ?_|refine xOTf rfl ?_);(try simp only[ctlB]))
   refine⟨by trivial,fun j hj=>?_,(by first|rfl|(simp only[Int.natCast_add,Int.natCast_one];rfl)|simp only[Int.natCast_add,Int.natCast_one])⟩
   by_cases e:j=i
   ·subst e;exact he
   ·exact hall j (by omega)
 ·rintro S H' ⟨rfl,hall,rfl⟩
  have hab:a=b:=by
   apply List.ext_getElem (by omega)
   intro i h1 h2
   have:=hall i h1
   simpa[List.getD_eq_getElem?_getD,List.getElem?_eq_getElem h1,List.getElem?_eq_getElem h2]using this
  (try simp only[ctlB])
  repeat' ((first|refine xSTf ?_|refine xOTf rfl ?_);(try simp only[ctlB]))
  refine xRTf ?_
  exact⟨rfl,by simp[resultOf,hab]⟩
def Vd(c v:Int):Prop:=(c=0∨c=3∨c=6)∧0≤v∧v≤928
def pL(c v:Nat):List Int:=(List.range 8).map fun i=>((wA c v i:Nat):Int)
theorem pL_pcs(c v:Nat):pcs (wA c v) 8=(pL c v).map (Value.int .i64):=by
 unfold pcs pL
 rw[List.map_map]
 refine List.map_congr_left fun i hi=>?_
 rw[if_pos (List.mem_range.1 hi)]
 rfl
def PatR(c v:Int)(H:Heap)(r:Value):Prop:=¬ Vd c v∧r=.tuple #[.slice none 0 0,.int .i64 3]∨Vd c v∧∃s,r=.tuple #[s,.int .i64 0]∧SlI H s (pL c.toNat v.toNat)
theorem vd_ok{c v:Int}(h:Vd c v):∃a b:Nat,c=a∧v=b∧a<9∧b<wyN 0 17 a∧b≤928:=by
 obtain⟨m0,m3,m6⟩:=many
 obtain⟨h1,h2,h3⟩:=h
 refine⟨c.toNat,v.toNat,by omega,by omega,by omega,?_,by omega⟩
 rcases h1 with rfl|rfl|rfl
 ·exact Nat.lt_of_lt_of_le (by omega) m0
 ·exact Nat.lt_of_lt_of_le (by omega) m3
 ·exact Nat.lt_of_lt_of_le (by omega) m6
theorem pL_len(a b:Nat):(pL a b).length=8:=by simp[pL]
theorem pL_sl(H:Heap)(c:Option (List Value))(a b:Nat):SlI (H++[c]++[some (pcs (wA a b) 8)]) (.slice (some ⟨H.length+1,0,none⟩) 8 8) (pL a b):=by
 have hg:=get_push_self (H++[c]) (pcs (wA a b) 8)
 rw[List.length_append,pL_pcs]at hg
 refine Sl.whole ?_ (pL_len a b)
 rw[pL_pcs]
 exact hg
theorem PatternP{lo:Nat}{H:Heap}{c v:Int}(hlo:lo≤H.length):Ev cp lo 10 [.int .i64 c,.int .i64 v] H (fun r H'=>Ext H H'∧PatR c v H' r):=by
 refine st10 ?_;unfold bd10 cf10;simp only[kB,ctlB]
 repeat' ((first|refine xSTf ?_|refine xOTf rfl ?_);(try simp only[ctlB]))
 refine xCTf (fun h=>?_) (fun h=>?_)
 ·have e:¬ Vd c v:=by
   unfold Vd
   simp only[Bool.or_eq_true,Bool.and_eq_true,decide_eq_true_eq,Bool.not_eq_true',decide_eq_false_iff_not]at h
   omega
  clear h
  (try simp only[ctlB])
  repeat' ((first|refine xSTf ?_|refine xOTf rfl ?_);(try simp only[ctlB]))
  refine xRTf ?_
  exact⟨Ext.refl _,.inl ⟨e,rfl⟩⟩
 have e:Vd c v:=by
  unfold Vd
  simp only[Bool.or_eq_false_iff,Bool.and_eq_false_iff,decide_eq_false_iff_not,Bool.not_eq_false',decide_eq_true_eq]at h
  omega
 clear h
 obtain⟨a,b,rfl,rfl,ha,hb,hb9⟩:=vd_ok e
 have hpat:=patternP (lo:=lo) (b:=H.length) (H:=H++[some tabV]) (by simp;omega) (get_push_self _ _) hb ha
 have htal:=(tallyP hlo).sub subT
 generalize tabV=T at hpat htal
 rw[List.length_append]at hpat
 (try simp only[ctlB])
 refine xHTf ?_
 refine wpH_call0 htal ?_
 rintro r K ⟨rfl,rfl⟩
 (try simp only[ctlB])
 refine xHTf ?_
 refine wpH_call0 hpat ?_
 rintro r K ⟨rfl,rfl⟩
 (try simp only[ctlB])
 repeat' ((first|refine xSTf ?_|refine xOTf rfl ?_);(try simp only[ctlB]))
 refine xRTf ?_
 have hx:Ext H (H++[some T]++[some (pcs (wA a b) 8)]):=(Ext.push H _).trans (Ext.push _ _)
 exact⟨hx,.inr ⟨e,_,rfl,pL_sl H _ a b⟩⟩
def pT(f:Nat→Nat)(k:Nat):List Int:=(List.range k).map fun i=>((f i:Nat):Int)
theorem pT_len(f:Nat→Nat)(k:Nat):(pT f k).length=k:=by simp[pT]
theorem pT_succ(f:Nat→Nat)(k:Nat):pT f (k+1)=pT f k++[((f k:Nat):Int)]:=by simp[pT,List.range_succ]
theorem cells_tab:(Value.agg ⟨tabV⟩).cells.toList=tabV:=rfl
theorem tab_at{k s d w:Nat}(hk:k<8)(hs:s<18)(hd:d<9)(hw:w≤s):tabV[(k+1)*162+(s-w)*9+rsN k d w]?=some (.int .i64 ((bhd k s d w:Nat):Int)):=by
 have hr:=rsN_lt (k:=k) (c:=d) (w:=w) hd
 have:=(rowTab (k:=k+1) (by omega)).2 (9*(s-w)+rsN k d w) (by omega)
 rw[show(k+1)*162+(s-w)*9+rsN k d w=162*(k+1)+(9*(s-w)+rsN k d w) by omega,this]
 unfold bhd
 rw[if_neg (by omega)]
theorem mod_pt{k d w:Nat}(hk:k<8)(hd:d<9)(hw:w≤6):(((d:Nat):Int)+9-((ptN k w:Nat):Int)).tmod 9=((rsN k d w:Nat):Int):=by
 have hp9:ptN k w≤9:=by unfold ptN;split<;>(try split)<;>omega
 rw[show((d:Nat):Int)+9-((ptN k w:Nat):Int)=((d+9-ptN k w:Nat):Int) by omega,←pt_rs hk hd hw];rfl
theorem ptN_le{k w:Nat}(hw:w≤6):ptN k w≤9:=by unfold ptN;split<;>(try split)<;>omega
theorem intL_snoc(l:List Int)(x:Int):intL (l++[x])=intL l++[.int .i64 x]:=by simp[intL]
theorem intL_len(l:List Int):(intL l).length=l.length:=by simp[intL]
theorem rpatternP{lo:Nat}{H:Heap}{c v:Nat}(hlo:lo≤H.length)(h0:v<wyN 0 17 c)(hc:c<9) :
  Ev cp lo 25 [.agg ⟨tabV⟩,.int .i64 (c:Nat),.int .i64 (v:Nat)] H (fun r H'=>Ext H H'∧SlI H' r (pL c v)):=by
 have hv0:wyN 0 17 c≤1000000:=wyL_le _ _
 have hct:=cells_tab
 have hlt:=lenTab
 have htat:=fun {k s d w:Nat} (hk:k<8) (hs:s<18) (hd:d<9) (hw:w≤s)=>tab_at hk hs hd hw
 generalize tabV=T at *
 refine st25 ?_;unfold bd25 cf25;simp only[kB,ctlB]
 repeat' ((first|refine xSTf ?_|refine xOTf rfl ?_);(try simp only[ctlB]))
 clear hct
 refine aw_for (fun k S H'=>Ext H H'∧H'.get H.length=some T∧∃vd bd,H.length<bd∧Own lo 1 H' vd bd (intL (pT (wA c v) k))∧∃(z:Nat→Value),S=[.agg ⟨T⟩,z 1,.int .i64 (((stA c v k).v:Nat):Int),.pointer (some ⟨H.length,0,none⟩),z 4,vd,.int .i64 (((stA c v k).s:Nat):Int),.int .i64 (((stA c v k).c:Nat):Int),.int .i64 (k:Nat),z 9,z 10,z 11,z 12,z 13,z 14,z 15,z 16,z 17,z 18,z 19,z 20,z 21,z 22]) 8 ?_ ?_ ?_ ?_
 ·exact⟨Ext.app _ _,get_app0,_,H.length+1,by omega,Own.nil (by omega),exZTd rfl⟩
 ·rintro k S H' hk ⟨hx,g0,vd,bd,hbd,hown,z,rfl⟩
  exact⟨_,xETf,by simp;omega⟩
 ·rintro k S H1 hk ⟨hx1,g0,vd,bd,hbd,hown,z,rfl⟩
  have hl1:=hx1.1
  have hok:=okA h0 hc k (by omega)
  have hsix:=hok.six hk
  obtain⟨hw1,-⟩:=hok.w hk
  have hiff:=fun w=>pw_iff (w:=w) hsix
  obtain⟨hp1,hp6⟩:=pw_le k (stA c v k).s (stA c v k).c (stA c v k).v
  have hwd:wA c v k=pw k (stA c v k).s (stA c v k).c (stA c v k).v:=rfl
  have hn:stA c v (k+1)=nxt k (stA c v k):=rfl
  have hs8:=hok.s
  have hc9:=hok.c
  have hxb:(stA c v k).v≤6000000:=Nat.le_of_lt (Nat.lt_of_lt_of_le hsix (sumW_le _ _ _ 6))
  have hpT:=pT_succ (wA c v) k
  have hpl:=pT_len (wA c v) k
  rw[hwd]at hpT
  rw[hn]at *
  unfold nxt
  generalize wA c v=f at *
  generalize stA c v k=t at *
  obtain⟨x,s,d⟩:=t
  simp only at *
  generalize pw k s d x=P at *
  have hlow:sumW k s d (P-1)≤x:=(hiff (P-1)).1 (by omega)
  clear hok hsix hn hwd hv0 h0
  replace hiff:False∨_:=.inr hiff
  replace hpT:False∨_:=.inr hpT
  (try simp only[ctlB])
  repeat' ((first|refine xSTf ?_|refine xOTf rfl ?_);(try simp only[ctlB]))
  refine aw_loop' (fun m S H'=>H'=H1∧∃w,1≤w∧w≤P∧m=P-w∧∃(z:Nat→Value),S=[.agg ⟨T⟩,z 1,.int .i64 ((x-sumW k s d (w-1):Nat):Int),.pointer (some ⟨H.length,0,none⟩),z 4,vd,.int .i64 (s:Nat),.int .i64 (d:Nat),.int .i64 (k:Nat),.int .i64 (w:Nat),z 10,z 11,z 12,z 13,z 14,z 15,z 16,z 17,z 18,z 19,z 20,z 21,z 22]) (P-1) ?_ ?_
  ·exact⟨rfl,1,by omega,by omega,rfl,exZTd rfl⟩
  rintro m S H' ⟨rfl,w,w1,wP,rfl,z,rfl⟩
  have hstep:=sumW_step (k:=k) (s:=s) (c:=d) w1
  have hb:=(partP (lo:=lo) (H:=H') hk (show w≤6 by omega)).sub subT
  have hmp:=mod_pt hk hc9 (show w≤6 by omega)
  have hp9:=ptN_le (k:=k) (show w≤6 by omega)
  have hat:=htat hk hs8 hc9 (show w≤s by omega)
  have hr9:=rsN_lt (k:=k) (c:=d) (w:=w) hc9
  have ek1:(((k:Nat):Int)+1).toNat=k+1:=by omega
  have es1:(((s:Nat):Int)-(w:Nat)).toNat=s-w:=by omega
  have hbl:=bhd_le k s d w
  have hwl:sumW k s d (w-1)≤x:=Nat.le_trans (sumW_mono (by omega)) hlow
  have hub:x-sumW k s d (w-1)≤6000000:=by omega
  have hws:w≤s:=by omega
  obtain⟨q,hq⟩:∃q,q=rsN k d w:=⟨_,rfl⟩
  rw[←hq]at hmp hat hr9
  replace hq:False∨_:=.inr hq
  by_cases hwP:w<P
  ·have hge:bhd k s d w≤x-sumW k s d (w-1):=by
    have:=(hiff.resolve_left id w).1 hwP
    omega
   have hnx:((x-sumW k s d (w-1):Nat):Int)-((bhd k s d w:Nat):Int)=((x-sumW k s d (w+1-1):Nat):Int):=by
    rw[Nat.add_sub_cancel,hstep];omega
   clear hstep hwl hlow
   obtain⟨y,hy⟩:∃y,y=x-sumW k s d (w+1-1):=⟨_,rfl⟩
   have hyb:y≤6000000:=by omega
   rw[←hy]at hnx
   replace hy:False∨_:=.inr hy
   generalize x-sumW k s d (w-1)=u at *
   generalize bhd k s d w=bv at *
   clear htat
   (try simp only[ctlB])
   refine xHTf ?_
   refine wpH_callC hb ?_
   rintro r K ⟨rfl,rfl⟩
   (try simp only[ctlB])
   refine xCTf (fun h=>?_) (fun h=>?_)
   rotate_left
   ·simp at h;omega
   clear h
   (try simp only[ctlB])
   refine xHTf ?_
   refine wpH_callC hb ?_
   rintro r K ⟨rfl,rfl⟩
   (try simp only[ctlB])
   repeat' ((first|refine xSTf ?_|refine xOTf rfl ?_);(try simp only[ctlB]))
   simp only[loopQ_n]
   exact⟨_,by omega,by trivial,w+1,by omega,by omega,rfl,exZTd (by rw[←hy.resolve_left id];first|rfl|(simp only[Int.natCast_add,Int.natCast_one];rfl))⟩
  ·obtain rfl:w=P:=by omega
   have hlt:x-sumW k s d (w-1)<bhd k s d w:=by
    have:=mt (hiff.resolve_left id w).2 (by omega)
    omega
   have hsub:((s-w:Nat):Int)=(s:Int)-(w:Nat):=by omega
   clear hstep hwl hlow htat
   generalize x-sumW k s d (w-1)=u at *
   generalize bhd k s d w=bv at *
   (try simp only[ctlB])
   refine xHTf ?_
   refine wpH_callC hb ?_
   rintro r K ⟨rfl,rfl⟩
   (try simp only[ctlB])
   refine xCTf (fun h=>?_) (fun h=>?_)
   ·simp at h;omega
   clear h hat
   (try simp only[ctlB])
   repeat' ((first|refine xSTf ?_|refine xOTf rfl ?_);(try simp only[ctlB]))
   refine xHTf ?_
   refine wpH_app (c:=[.int .i64 (w:Nat)]) (hown.mono (Ext.app _ _)) (by simp;omega) (by omega) (by omega) (by rw[intL_len,hpl];omega) get_app0 (by simp) rfl rfl ?_
   rintro v' H3 hown3 hkp hl3
   have hE:=Ext.app K [some [Value.int .i64 (w:Nat)]]
   have hx3:=hkp.ext (hx1.trans hE) (by omega)
   have g3:=hkp.get (hE.get g0) (by omega)
   rw[←intL_snoc,←hpT.resolve_left id]at hown3
   clear hkp hE hown
   have hb3:=(partP (lo:=lo) (H:=H3) hk (show w≤6 by omega)).sub subT
   (try simp only[ctlB])
   repeat' ((first|refine xSTf ?_|refine xOTf rfl ?_);(try simp only[ctlB]))
   refine xHTf ?_
   refine wpH_call0 hb3 ?_
   rintro r K ⟨rfl,rfl⟩
   (try simp only[ctlB])
   repeat' ((first|refine xSTf ?_|refine xOTf rfl ?_);(try simp only[ctlB]))
   exact⟨hx3,g3,_,_,by simp;omega,hown3,exZTd (by rw[←hq.resolve_left id];simp only[Int.natCast_add,Int.natCast_one,hsub];rfl)⟩
 rintro S H1 ⟨hx1,g0,vd,bd,hbd,hown,z,rfl⟩
 clear htat
 (try simp only[ctlB])
 repeat' ((first|refine xSTf ?_|refine xOTf rfl ?_);(try simp only[ctlB]))
 refine xRTf ?_
 exact⟨hx1,Sl.ofOwn hown⟩
theorem RPatternP{lo:Nat}{H:Heap}{c v:Int}(hlo:lo≤H.length):Ev cp lo 11 [.int .i64 c,.int .i64 v] H (fun r H'=>Ext H H'∧PatR c v H' r):=by
 refine st11 ?_;unfold bd11 cf11;simp only[kB,ctlB]
 repeat' ((first|refine xSTf ?_|refine xOTf rfl ?_);(try simp only[ctlB]))
 refine xCTf (fun h=>?_) (fun h=>?_)
 ·have e:¬ Vd c v:=by
   unfold Vd
   simp only[Bool.or_eq_true,Bool.and_eq_true,decide_eq_true_eq,Bool.not_eq_true',decide_eq_false_iff_not]at h
   omega
  clear h
  (try simp only[ctlB])
  repeat' ((first|refine xSTf ?_|refine xOTf rfl ?_);(try simp only[ctlB]))
  refine xRTf ?_
  exact⟨Ext.refl _,.inl ⟨e,rfl⟩⟩
 have e:Vd c v:=by
  unfold Vd
  simp only[Bool.or_eq_false_iff,Bool.and_eq_false_iff,decide_eq_false_iff_not,Bool.not_eq_false',decide_eq_true_eq]at h
  omega
 clear h
 obtain⟨a,b,rfl,rfl,ha,hb,hb9⟩:=vd_ok e
 have hw:=waysP hlo
 have hpat:=fun {K:Heap} (hk:lo≤K.length)=>rpatternP (lo:=lo) (H:=K) hk hb ha
 generalize tabV=T at hw hpat
 (try simp only[ctlB])
 refine xHTf ?_
 refine wpH_call0 hw ?_
 rintro r K ⟨rfl,hx1⟩
 have hl1:=hx1.1
 (try simp only[ctlB])
 refine xHTf ?_
 refine wpH_call0 (hpat (by omega)) ?_
 rintro r K2 ⟨hx2,hs⟩
 clear hpat hw
 (try simp only[ctlB])
 repeat' ((first|refine xSTf ?_|refine xOTf rfl ?_);(try simp only[ctlB]))
 refine xRTf ?_
 exact⟨hx1.trans hx2,.inr ⟨e,_,rfl,hs⟩⟩
end Go.Proofs.YtgiojnobcjnibaaGreatDoor
