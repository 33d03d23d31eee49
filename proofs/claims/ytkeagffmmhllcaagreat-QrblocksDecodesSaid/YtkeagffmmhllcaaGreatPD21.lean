/- QR blocks: Split of the program. QR blocks: Encode of the program. QR blocks: what is read of each block (plain lists). QR blocks: correct (from the code on). QR blocks: correct (the words and erased indexes of the blocks). -/
import Derived.Test.YtkeagffmmhllcaaGreatPD10
import Derived.Test.YtkeagffmmhllcaaGreatPD16
import Derived.Test.YtkeagffmmhllcaaGreatPD18
import Derived.Test.YtkeagffmmhllcaaGreatPD20
set_option linter.unusedVariables false
set_option linter.unusedSimpArgs false
set_option linter.unusedSectionVars false
namespace Go.Proofs.YtkeagffmmhllcaaGreat
open Go.Abs Go.RS
set_option linter.unusedSimpArgs false
set_option linter.unusedVariables false
set_option maxRecDepth 20000
def SlW(H:Heap)(v:Value)(l:List Int):Prop:=(v=.slice none 0 0∧l=[])∨∃b sp cap,v=.slice (some ⟨b,0,sp⟩) l.length cap∧H.get b=some (intL l)∧(sp=none∨sp=some 1)∧l.length≤cap
theorem SlW.sli{H:Heap}{v:Value}{l:List Int}(h:SlW H v l):SlI H v l:=by
 rcases h with h|⟨b,sp,cap,rfl,h2,h3,h4⟩
 ·exact .inl h
 ·exact .inr ⟨b,0,sp,cap,_,rfl,h2,by rw[List.drop_zero,List.take_of_length_le (by rw[intL_len];omega)];rfl,by rw[intL_len];omega,h3,h4⟩
theorem SlW.mono{H H':Heap}{v:Value}{l:List Int}(h:SlW H v l)(e:Ext H H'):SlW H' v l:=by
 rcases h with h|⟨b,sp,cap,h1,h2,h3⟩
 ·exact .inl h
 ·exact .inr ⟨b,sp,cap,h1,e.get h2,h3⟩
theorem SlW.move{H H':Heap}{v:Value}{l:List Int}(h:SlW H v l)(e:∀i c,H.get i=some c→leafy c=true→H'.get i=some c):SlW H' v l:=by
 rcases h with h|⟨b,sp,cap,h1,h2,h3⟩
 ·exact .inl h
 ·exact .inr ⟨b,sp,cap,h1,e _ _ h2 (leafy_int l),h3⟩
theorem SlW.len{H:Heap}{v:Value}{l:List Int}(h:SlW H v l):∃a c,v=.slice a l.length c:=by
 rcases h with ⟨rfl,rfl⟩|⟨b,sp,cap,rfl,_⟩
 ·exact⟨_,_,rfl⟩
 ·exact⟨_,_,rfl⟩
theorem SlW.els{H:Heap}{v:Value}{l:List Int}(h:SlW H v l)(hl:0<l.length):∃b sp cap,v=.slice (some ⟨b,0,sp⟩) l.length cap∧H.get b=some (intL l)∧(sp=none∨sp=some 1)∧l.length≤cap:=by
 rcases h with ⟨rfl,rfl⟩|h
 ·simp at hl
 ·exact h
theorem SlW.ofOwn{lo:Nat}{H:Heap}{v:Value}{b:Nat}{l:List Int}(h:Own lo 1 H v b (intL l)):SlW H v l:=by
 obtain⟨_,⟨rfl,h⟩|⟨n,_,h1,rfl,h2⟩⟩:=h
 ·refine .inl ⟨rfl,?_⟩
  cases l with
  | nil=>rfl
  | cons a l=>cases h
 ·rw[intL_len,Nat.mul_one]at h1
  subst h1
  exact .inr ⟨b,some 1,_,rfl,h2,.inr rfl,Nat.le_refl _⟩
def SlLw(H:Heap)(v:Value)(L:List (List Int)):Prop:=∃vs,SlS H v vs∧vs.length=L.length∧∀i,i<L.length→SlW H (vs.getD i nl) (L.getD i [])
theorem SlLw.sl{H:Heap}{v:Value}{L:List (List Int)}(h:SlLw H v L):SlL H v L:=by
 obtain⟨vs,h1,h2,h3⟩:=h
 exact⟨vs,h1,h2,fun i hi=>(h3 i hi).sli⟩
theorem SlLw.mono{H H':Heap}{v:Value}{L:List (List Int)}(h:SlLw H v L)(e:Ext H H'):SlLw H' v L:=by
 obtain⟨vs,h1,h2,h3⟩:=h
 exact⟨vs,h1.mono e,h2,fun i hi=>(h3 i hi).mono e⟩
def blks(b:Bk)(l:List Int):List (List Int):=(List.range b.n).map (blk b l)
def SplitIs(b:Bk)(l:List Int)(H:Heap)(r:Value):Prop:=
 (l.length≠b.cap→r=.tuple #[.slice none 0 0,.int .i64 7])∧(l.length=b.cap→inF 256 l=false→r=.tuple #[.slice none 0 0,.int .i64 3]) ∧
 (l.length=b.cap→inF 256 l=true→∃vo,r=.tuple #[vo,.int .i64 0]∧SlLw H vo (blks b l))
theorem inF_take{l:List Int}{i:Nat}(h:i<l.length):inF 256 (l.take (i+1))=(inF 256 (l.take i)&&!(decide (l.getD i 0<0) || decide (256≤l.getD i 0))):=all_take_succ h
theorem inF_mem{l:List Int}{i:Nat}(h:i<l.length)(hb:(decide (l.getD i 0<0) || decide (256≤l.getD i 0))=true):inF 256 l=false:=by
 rw[Bool.eq_false_iff]
 intro h2
 have:=inF_iff.1 h2 (l.getD i 0) (by rw[List.getD_eq_getElem?_getD,List.getElem?_eq_getElem h];exact List.getElem_mem h)
 simp only[Bool.or_eq_true,decide_eq_true_eq]at hb;omega
section
variable {lo:Nat}{H:Heap}{v l:Int}
theorem cpP_vl{i:Nat}(hi:i<160)(ha:[Value.int .i64 v,Value.int .i64 l]=arg i)(hlo:lo≤H.length):Ev cp lo 30 [.int .i64 v,.int .i64 l] H (fun r H'=>Ext H H'∧r=.tuple #[.int .i64 ((bk i).cap:Nat),.int .i64 0]):=by
 rw[ha];exact cpP_ok hi hlo
set_option linter.defProp false in
def xBQi:=And.intro @Int.cast_ofNat_Int (And.intro @ite_self.{1} @Bk.cells.eq_1)
theorem xEQi{P:Prop}(h:P:=by simp(disch:=first|omega|(simp only[lenB];omega))only[evB,xBQi,Nat.reduceAdd,Nat.reduceBEq, *];rfl):P:=h
theorem xSQi{cp:FuncId→Option CF}{lo:Nat}{l:List (Nat×E)}{chk:List E}{Q:Post}{S:List Value}{H:Heap}{vs:List (Nat×Value)}{S':List Value}(k:Q .normal S' H)(h:evSets S H l=some vs:=by exact xEQi)(hc:evChk S H chk=true:=by simp(disch:=first|omega|(simp only[lenB];omega))only[evB,xBQi,Nat.reduceAdd,Nat.reduceBEq, *])(hS:setAll S vs=S':=by exact xEQi):wpS cp lo (.sets l chk) Q S H:=aw_sets h hc hS k
theorem xHQi{cp:FuncId→Option CF}{lo:Nat}{l:List (Nat×E)}{chk:List E}{Q:Post}{S:List Value}{H:Heap}{vs:List (Nat×Value)}{dst:Option Nat}{o:HOp}{a:E}{xs:List Value}(k:wpH cp lo o xs H fun v H'=>Q .normal (setD (setAll S vs) dst v) H')(h:evSets S H l=some vs:=by exact xEQi)(hc:evChk S H chk=true:=by simp(disch:=first|omega|(simp only[lenB];omega))only[evB,xBQi,Nat.reduceAdd,Nat.reduceBEq, *])(ha:ev S H a=some xs:=by exact xEQi):wpS cp lo (.hv l chk [] dst o a) Q S H:=aw_hv h hc ha k
theorem xOQi{cp:FuncId→Option CF}{lo:Nat}{l:List (Nat×E)}{chk:List E}{Q:Post}{S:List Value}{H:Heap}{vs:List (Nat×Value)}{dst:Option Nat}{o:HOp}{a:E}{xs:List Value}{S':List Value}{H':Heap}{v:Value}(hcall:o.isCall=false)(k:Q .normal S' H')(h:evSets S H l=some vs:=by exact xEQi)(hc:evChk S H chk=true:=by simp(disch:=first|omega|(simp only[lenB];omega))only[evB,xBQi,Nat.reduceAdd,Nat.reduceBEq, *])(ha:ev S H a=some xs:=by exact xEQi)(ho:hsem0 lo o xs H=some (v,H'):=by exact xEQi)(hS:setD (setAll S vs) dst v=S':=by exact xEQi):wpS cp lo (.hv l chk [] dst o a) Q S H:=aw_op hcall h hc ha ho hS k
theorem xCQi{cp:FuncId→Option CF}{lo:Nat}{c:E}{a b:Stm}{Q:Post}{S:List Value}{H:Heap}{t:Bool}(k1:t=true→wpS cp lo a Q S H)(k2:t=false→wpS cp lo b Q S H)(h:ev1 S H c=some (.bool t):=by exact xEQi):wpS cp lo (.cond c a b) Q S H:=aw_cond h k1 k2
theorem xRQi{cf:CF}{R:Value→Heap→Prop}{S:List Value}{H:Heap}{vs:List Value}(k:R (resultOf vs) H)(h:evList S H cf.res=some vs:=by exact xEQi):bodyQ cf R .ret S H:=body_ret h k
set_option maxHeartbeats 1000000 in
theorem splitP{vd:Value}{d:List Int}{i:Nat}(hd:SlI H vd d)(hdl:d.length≤1000000000)(hi:i<160)(ha:[Value.int .i64 v,Value.int .i64 l]=arg i)(hlo:lo≤H.length):Ev cp lo 13 [vd,.int .i64 v,.int .i64 l] H (fun r H'=>Ext H H'∧SplitIs (bk i) d H' r):=by
 have hb:=bk_ok hi
 have hst:=stP_vl hi ha hlo
 have hcp:∀{H:Heap},lo≤H.length→_:=fun {H} h=>cpP_vl (H:=H) hi ha h
 clear ha
 have hd0:=hd
 obtain⟨ad,cd,rfl⟩:=hd.len
 refine st13 ?_;unfold bd13 cf13;simp only[kB,ctlB]
 repeat' ((first|refine xSQi ?_|refine xOQi rfl ?_);(try simp only[ctlB]))
 refine xHQi ?_
 refine wpH_call0 hst ?_
 rintro r H1 ⟨hx1,rfl⟩
 clear hst
 generalize bk i=b at *
 have h1:=hb.sh
 have h2:=hb.n
 have h6:=hb.len
 have h7:=hb.all
 have hsum:b.cap+b.n*b.ck=b.all:=rfl
 have hl1:=hx1.1
 unfold Bk.val
 (try simp only[ctlB])
 repeat' ((first|refine xSQi ?_|refine xOQi rfl ?_);(try simp only[ctlB]))
 generalize hG:H1++_=G at *
 obtain⟨g0,hxG⟩:=box_facts hG
 clear hG
 have hxG:=hx1.trans hxG
 have hlG:=hxG.1
 refine xCQi (fun h=>?_) (fun h=>?_)
 ·cases h
 clear h
 (try simp only[ctlB])
 refine xHQi ?_
 refine wpH_call0 (hcp (by omega)) ?_
 rintro r H2 ⟨hx2,rfl⟩
 clear hcp
 have g0:=(hx2).get g0
 have hx2:=hxG.trans hx2
 have hl2:=hx2.1
 have hl0:=Heap.get_lt g0
 clear hxG hlG hx1
 (try simp only[ctlB])
 repeat' ((first|refine xSQi ?_|refine xOQi rfl ?_);(try simp only[ctlB]))
 refine xCQi (fun h=>?_) (fun h=>?_)
 ·exfalso;simp at h
 clear h
 (try simp only[ctlB])
 refine xCQi (fun h=>?_) (fun h=>?_)
 ·have hne:d.length≠b.cap:=by simp at h;omega
  clear h
  (try simp only[ctlB])
  repeat' ((first|refine xSQi ?_|refine xOQi rfl ?_);(try simp only[ctlB]))
  refine xRQi ?_
  exact⟨hx2,fun _=>rfl,fun h=>absurd h hne,fun h=>absurd h hne⟩
 have hlen:d.length=b.cap:=by simp at h;omega
 clear h
 (try simp only[ctlB])
 repeat' ((first|refine xSQi ?_|refine xOQi rfl ?_);(try simp only[ctlB]))
 refine aw_for (fun k S H'=>H2=H'∧inF 256 (d.take k)=true∧∃(z:Nat→Value),S=[.slice ad b.cap cd,.int .i64 v,.int .i64 l,z 3,z 4,.pointer (some ⟨H1.length,0,none⟩),z 6,z 7,z 8,z 9,z 10,z 11,z 12,z 13,z 14,z 15,.slice ad b.cap cd,.int .i64 (b.cap:Nat),.int .i64 (k:Nat),z 19,z 20,z 21,z 22,z 23,z 24,z 25]) b.cap ?_ ?_ ?_ ?_
 ·exact⟨rfl,rfl,exZGc rfl⟩
 ·rintro k S H' hk ⟨rfl,-,z,rfl⟩
  exact⟨_,xEQi,by simp⟩
 ·rintro k S H' hk ⟨rfl,hin,z,rfl⟩
  obtain⟨xb,xo,xsp,xc,xs,e1,g1,f1,l1⟩:=(hd0.mono hx2).els 0 (by omega)
  cases e1
  have hk:k<d.length:=by omega
  have k1:=f1 k hk
  have hnx:=inF_take hk
  have hbad:=inF_mem hk
  clear f1
  generalize d.getD k 0=x at *
  (try simp only[ctlB])
  repeat' ((first|refine xSQi ?_|refine xOQi rfl ?_);(try simp only[ctlB]))
  refine xCQi (fun h=>?_) (fun h=>?_)
  ·have hbad:=hbad (by simp at h ⊢;omega)
   clear h hnx
   (try simp only[ctlB])
   repeat' ((first|refine xSQi ?_|refine xOQi rfl ?_);(try simp only[ctlB]))
   refine xRQi ?_
   exact⟨hx2,fun h=>absurd hlen h,fun _ _=>rfl,fun _ h=>by rw[hbad]at h;cases h⟩
  ·have hnx:inF 256 (d.take (k+1))=true:=by
    rw[hnx,hin];simp at h ⊢;omega
   clear h hbad k1
   (try simp only[ctlB])
   repeat' ((first|refine xSQi ?_|refine xOQi rfl ?_);(try simp only[ctlB]))
   exact⟨by trivial,hnx,exZGc (by first|rfl|(simp only[Int.natCast_add,Int.natCast_one];rfl)|simp only[Int.natCast_add,Int.natCast_one])⟩
 ·rintro S H' ⟨rfl,hin,z,rfl⟩
  rw[←hlen,List.take_length]at hin
  have hd2:=hd0.mono hx2
  have hd0:SlI H2 (.slice ad b.cap cd) d:=by rw[←hlen];exact hd2
  have hlen':b.cap≤d.length∧d.length≤b.cap:=by omega
  have hfin:∀{H':Heap} {vo:Value},SlLw H' vo (blks b d)→SplitIs b d H' (.tuple #[vo,.int .i64 0]):=fun h=>⟨fun h2=>absurd hlen h2,fun _ h2=>(by rw[hin]at h2;cases h2),fun _ _=>⟨_,rfl,h⟩⟩
  clear hd hd2 hlen hin
  (try simp only[ctlB])
  repeat' ((first|refine xSQi ?_|refine xOQi rfl ?_);(try simp only[ctlB]))
  refine xHQi ?_
  refine wpH_call0 (sizesP (b:=b) hb (by omega)) ?_
  rintro r H3 ⟨hx3,s,hs,rfl,gs⟩
  have hd0:=hd0.mono hx3
  have hx3:=hx2.trans hx3
  have hl3:=hx3.1
  have hs0:=Heap.get_lt gs
  clear g0 hx2
  have hln:=lens_len b
  (try simp only[ctlB])
  repeat' ((first|refine xSQi ?_|refine xOQi rfl ?_);(try simp only[ctlB]))
  refine aw_for (fun j S H'=>Ext H3 H'∧∃vd vo bo D,SlI H3 vd (d.drop (b.off j))∧Own H3.length 1 H' vo bo D∧spiny D=true∧D.length=j∧(∀x,x<j→SlW H' (D.getD x nl) (blk b d x))∧∃(z:Nat→Value),S=[vd,z 1,z 2,z 3,z 4,z 5,z 6,z 7,z 8,vo,z 10,z 11,z 12,z 13,z 14,z 15,z 16,z 17,z 18,.slice (some ⟨s,0,none⟩) b.n b.n,.int .i64 (b.n:Nat),.int .i64 (j:Nat),z 22,z 23,z 24,z 25]) b.n ?_ ?_ ?_ ?_
  ·exact⟨Ext.refl _,_,_,_,[],by simpa[Bk.off]using hd0,Own.nil (Nat.le_refl _),rfl,rfl,by omega,exZGc rfl⟩
  ·rintro j S H' hj ⟨-,vd,vo,bo,D,-,-,-,-,-,z,rfl⟩
   exact⟨_,xEQi,by simp⟩
  ·clear hd0
   rintro j S H4 hj ⟨hx4,vd,vo,bo,D,hvd,oo,sD,lD,hall,z,rfl⟩
   have gs:=hx4.get gs
   have hat:=lens_at b hj
   have hoff:=b.off_in hj
   have hos:=b.off_succ j
   have hl4:=hx4.1
   have hdl:(d.drop (b.off j)).length=d.length-b.off j:=List.length_drop
   obtain⟨vd',hsl,hvd'⟩:=sl_drop (k:=b.len j) hvd (by omega)
   have hvd4:=hvd.mono hx4
   rw[List.drop_drop,←hos]at hvd'
   have hblk:(d.drop (b.off j)).take (b.len j)=blk b d j:=rfl
   have hbl:=blk_len (b:=b) (l:=d) (by omega) hj
   have hle:=b.len_le j
   generalize b.lens=LE at *
   clear hos
   (try simp only[ctlB])
   repeat' ((first|refine xSQi ?_|refine xOQi rfl ?_);(try simp only[ctlB]))
   generalize hG:H4++_=G4 at *
   obtain⟨g4,hxG⟩:=box_facts hG
   have hG4:G4.length=H4.length+1:=by rw[←hG];simp
   clear hG
   refine xHQi ?_
   refine wpH_cpyI (p:=d.drop (b.off j)) (D:=List.replicate (b.len j) 0) (by omega) g4 (by simp) (hvd4.mono hxG) ?_
   intro w
   have e0:(List.replicate (b.len j) (0:Int)).drop (min (d.drop (b.off j)).length (b.len j))=[]:=List.drop_of_length_le (by rw[List.length_replicate];omega)
   rw[hblk,e0,List.append_nil]
   clear e0
   have hx5:Ext H4 (G4.set H4.length (some (intL (blk b d j)))):=hxG.set (Nat.le_refl _)
   have g5:Heap.get (G4.set H4.length (some (intL (blk b d j)))) H4.length=some (intL (blk b d j)):=get_set_self (by omega)
   have hl5:H4.length+1≤(G4.set H4.length (some (intL (blk b d j)))).length∧(G4.set H4.length (some (intL (blk b d j)))).length≤H4.length+1:=by simp[hG4]
   generalize G4.set H4.length (some (intL (blk b d j)))=H5 at *
   clear hxG g4 hG4 hvd4 hvd
   have oo:=oo.mono hx5
   have hx45:=hx4.trans hx5
   have hw:SlW H5 (.slice (some ⟨H4.length,0,none⟩) (b.len j) (b.len j)) (blk b d j):=.inr ⟨H4.length,none,b.len j,by rw[hbl],g5,.inl rfl,by omega⟩
   clear g5 hblk
   (try simp only[ctlB])
   repeat' ((first|refine xSQi ?_|refine xOQi rfl ?_);(try simp only[ctlB]))
   refine xHQi ?_
   refine spine_app (b:=bo) (D:=D) (x:=.slice (some ⟨H4.length,0,none⟩) (b.len j) (b.len j)) (base:=H3.length) (oo.mono (Ext.app _ _)) (by omega) (by simp;omega) sD rfl get_app0 (by omega) ?_
   intro vo' H6 oo' hl6 low mv
   have hl6:H6.length=H5.length+2:=by simpa using hl6
   have mv:∀i c,Heap.get H5 i=some c→(leafy c=true)→Heap.get H6 i=some c:=fun i c hi hc=>mv i c (by rw[get_app_lt (Heap.get_lt hi)];exact hi) (.inl hc)
   have hx6:Ext H3 H6:=⟨by omega,fun i hi=>(low i hi).trans (by rw[get_app_lt (by omega)];exact hx45.2 i hi)⟩
   have hw:=hw.move mv
   have hall:∀x,x<j→SlW H6 (D.getD x nl) (blk b d x):=fun x hx=>((hall x hx).mono hx5).move mv
   (try simp only[ctlB])
   repeat' ((first|refine xSQi ?_|refine xOQi rfl ?_);(try simp only[ctlB]))
   refine⟨hx6,vd',vo',_,_,hvd',oo',spiny_snoc sD rfl,by simp[lD],fun x hx=>?_,exZGc (by first|rfl|(simp only[Int.natCast_add,Int.natCast_one];rfl)|simp only[Int.natCast_add,Int.natCast_one])⟩
   by_cases hxj:x<j
   ·rw[getD_snoc_lt (by omega)];exact hall x hxj
   ·have:x=j:=by omega
    subst this
    rw[getD_snoc_eq lD.symm];exact hw
  ·rintro S H4 ⟨hx4,vd,vo,bo,D,hvd,oo,sD,lD,hall,z,rfl⟩
   have hL:SlLw H4 vo (blks b d):=⟨D,SlS.ofOwn oo,by simp[lD,blks],fun x hx=>by
    have hx:x<b.n:=by simpa[blks]using hx
    unfold blks
    rw[range_getD _ hx];exact hall x hx⟩
   (try simp only[ctlB])
   repeat' ((first|refine xSQi ?_|refine xOQi rfl ?_);(try simp only[ctlB]))
   refine xRQi ?_
   exact⟨hx3.trans hx4,hfin hL⟩
end
end Go.Proofs.YtkeagffmmhllcaaGreat
namespace Go.Proofs.YtkeagffmmhllcaaGreat
open Go.Abs Go.RS
set_option linter.unusedSimpArgs false
set_option linter.unusedVariables false
set_option maxRecDepth 20000
abbrev F5:FD:=fB 285
abbrev g5:El F5:=eB 285 2
theorem cdok5{c:Nat}(h1:1≤c)(h2:c≤254):CdOK F5 c 0:=⟨h1,h2,by decide⟩
noncomputable def encW(r:Nat)(d:List (El F5)):List (El F5):=@Classical.epsilon _ ⟨[]⟩ fun w=>IsEnc g5 r 0 d w
theorem encW_of{r:Nat}{d w:List (El F5)}(hc:CdOK F5 r 0)(h:IsEnc g5 r 0 d w):w=encW r d:=
 enc_uniq gn285 hc h (@Classical.epsilon_spec _ (fun w=>IsEnc g5 r 0 d w) ⟨w,h⟩)
theorem blk_val(b:Bk)(d:List (El F5))(x:Nat):blk b (valI d) x=valI (blk b d x):=by
 unfold blk valI;rw[←List.map_drop,←List.map_take]
noncomputable def Bk.W(b:Bk)(d:List (El F5))(x:Nat):List (El F5):=encW b.ck (blk b d x)
noncomputable def Bk.wv(b:Bk)(W:Nat→List (El F5)):List Int:=b.pl.map fun p=>(((co (W p.1) p.2).val:Nat):Int)
theorem wv_len(b:Bk)(W:Nat→List (El F5)):(b.wv W).length=b.all:=by unfold Bk.wv;rw[List.length_map,b.pl_len]
theorem sl_spiny{α:Type}{enc:α→Value}{H H':Heap}{v:Value}{l:List α}{t:Nat}{D:List Value}(hk:Keep t H H')(hD:H.get t=some D)(hs:spiny D=true)(henc:∀x,isSl (enc x)=false)(hl:0<l.length)(h:Sl enc H v l):Sl enc H' v l:=by
 rcases h with ⟨rfl,rfl⟩|⟨b,o,sp,cap,xs,h1,h2,h3,h4,h5⟩
 ·simp at hl
 ·refine .inr ⟨b,o,sp,cap,xs,h1,hk.get h2 ?_,h3,h4,h5⟩
  rintro rfl
  rw[hD]at h2;cases h2
  cases l with
  | nil=>simp at hl
  | cons a l=>
   have e:((D.drop o).take (a::l).length)[0]?=some (enc a):=by rw[h3];rfl
   rw[List.getElem?_take,if_pos (by simp),List.getElem?_drop]at e
   have hm:=List.mem_of_getElem? e
   have:=List.all_eq_true.1 hs _ hm
   rw[henc a]at this;cases this
theorem sle_drop{f:FD}[OkC f]{H:Heap}{v:Value}{l:List (El f)}{k:Nat}(h:SlE H v l)(hk:k≤l.length):∃v',(∀H',lsem (.sl 1 true false false) [v,.int .i64 (k:Nat)] H'=some v')∧SlE H v' (l.drop k):=sl_drop h hk
theorem sl_isSl{α:Type}{enc:α→Value}{H:Heap}{v:Value}{l:List α}(h:Sl enc H v l):isSl v=true:=by
 obtain⟨a,c,rfl⟩:=h.len;rfl
def EncIs(b:Bk)(l:List Int)(N:Nat)(H:Heap)(r:Value):Prop:=
 (l.length≠b.cap→r=.tuple #[.slice none 0 0,.int .i64 7])∧(l.length=b.cap→inF 256 l=false→r=.tuple #[.slice none 0 0,.int .i64 3]) ∧
 (∀d:List (El F5),l=valI d→d.length=b.cap→∃vo,r=.tuple #[vo,.int .i64 0]∧SlW H vo (b.wv (b.W d))∧NewV N vo∧∀x,x<b.n→IsEnc g5 b.ck 0 (blk b d x) (b.W d x))
theorem blks_ilv{b:Bk}{d:List (El F5)}(hd:d.length=b.cap)(hw:∀x,x<b.n→IsEnc g5 b.ck 0 (blk b d x) (b.W d x)):ilv 0 (blks b (valI d)) (mxl (blks b (valI d)))=b.plD.map fun p=>(((co (b.W d p.1) p.2).val:Nat):Int):=by
 have hl:∀x,x<b.n→(blk b (valI d) x).length=b.len x:=fun x hx=>blk_len (by rw[valI_len];exact hd) hx
 unfold blks
 rw[ilv_all _ _ (b.da+1) (fun x hx=>by rw[hl x hx];exact b.len_le x)]
 have e:plc0 (fun x=>(blk b (valI d) x).length) b.n (b.da+1)=b.plD:=by
  unfold Bk.plD plc0
  congr 1
  funext y
  congr 1
  refine List.filter_congr fun x hx=>?_
  simp only[hl x (List.mem_range.1 hx)]
 rw[e]
 refine List.map_congr_left fun p hp=>?_
 obtain⟨h1,h2,h3⟩:=mem_plc0.1 hp
 have hbl:=blk_len (b:=b) (l:=d) hd h1
 rw[(hw p.1 h1).dat p.2 (by omega),blk_val]
 unfold valI co
 rw[List.getD_eq_getElem?_getD,List.getElem?_map,List.getElem?_eq_getElem (by omega),List.getD_eq_getElem?_getD,List.getElem?_eq_getElem (by omega)]
 rfl
noncomputable def Bk.chks(b:Bk)(W:Nat→List (El F5)):List (List Int):=(List.range b.n).map fun x=>valI ((W x).drop (b.len x))
theorem chks_ilv{b:Bk}{W:Nat→List (El F5)}(hw:∀x,x<b.n→(W x).length=b.len x+b.ck):ilv 0 (b.chks W) (mxl (b.chks W))=b.plC.map fun p=>(((co (W p.1) p.2).val:Nat):Int):=by
 have hl:∀x,x<b.n→(valI ((W x).drop (b.len x))).length=b.ck:=fun x hx=>by rw[valI_len,List.length_drop,hw x hx];omega
 unfold Bk.chks Bk.plC
 rw[ilv_all _ _ b.ck (fun x hx=>by rw[hl x hx];exact Nat.le_refl _),List.map_map]
 have e:plc0 (fun x=>(valI ((W x).drop (b.len x))).length) b.n b.ck=plc0 (fun _=>b.ck) b.n b.ck:=by
  unfold plc0
  congr 1
  funext y
  congr 1
  refine List.filter_congr fun x hx=>?_
  simp only[hl x (List.mem_range.1 hx)]
 rw[e]
 refine List.map_congr_left fun p hp=>?_
 obtain⟨h1,h2,h3⟩:=mem_plc0.1 hp
 have:=hw p.1 h1
 unfold valI co
 rw[List.getD_eq_getElem?_getD,List.getElem?_map,List.getElem?_eq_getElem (by rw[List.length_drop];omega),List.getElem_drop]
 simp only[Function.comp,Option.map_some,Option.getD_some]
 rw[List.getD_eq_getElem?_getD,List.getElem?_eq_getElem (by omega)]
 rfl
section
variable {lo:Nat}{H:Heap}{v l:Int}
set_option maxHeartbeats 1000000 in
theorem encP{vd:Value}{d:List Int}{i:Nat}(hd:SlI H vd d)(hdl:d.length≤1000000000)(hi:i<160)(ha:[Value.int .i64 v,Value.int .i64 l]=arg i)(hlo:lo≤H.length):Ev cp lo 6 [vd,.int .i64 v,.int .i64 l] H (fun r H'=>Ext H H'∧EncIs (bk i) d H.length H' r):=by
 have hb:=bk_ok hi
 have hsp:=splitP hd hdl hi ha hlo
 have hst:∀{H:Heap},lo≤H.length→_:=fun {H} h=>stP_vl (H:=H) hi ha h
 clear ha
 refine st6 ?_;unfold bd6 cf6;simp only[kB,ctlB]
 repeat' ((first|refine xSQi ?_|refine xOQi rfl ?_);(try simp only[ctlB]))
 refine xHQi ?_
 refine wpH_call0 hsp ?_
 clear hsp
 generalize bk i=b at *
 rintro r H1 ⟨hx1,hr⟩
 have hl1:=hx1.1
 by_cases hlen:d.length=b.cap
 case neg=>
  rw[hr.1 hlen]
  (try simp only[ctlB])
  repeat' ((first|refine xSQi ?_|refine xOQi rfl ?_);(try simp only[ctlB]))
  refine xCQi (fun h=>?_) (fun h=>?_)
  case refine_2=>exfalso;simp at h
  clear h
  (try simp only[ctlB])
  repeat' ((first|refine xSQi ?_|refine xOQi rfl ?_);(try simp only[ctlB]))
  refine xRQi ?_
  refine⟨hx1,fun _=>rfl,fun h=>absurd h hlen,?_⟩
  rintro e rfl he
  rw[valI_len]at hlen;exact absurd he hlen
 by_cases hin:inF 256 d=true
 case neg=>
  rw[Bool.not_eq_true]at hin
  rw[hr.2.1 hlen hin]
  (try simp only[ctlB])
  repeat' ((first|refine xSQi ?_|refine xOQi rfl ?_);(try simp only[ctlB]))
  refine xCQi (fun h=>?_) (fun h=>?_)
  case refine_2=>exfalso;simp at h
  clear h
  (try simp only[ctlB])
  repeat' ((first|refine xSQi ?_|refine xOQi rfl ?_);(try simp only[ctlB]))
  refine xRQi ?_
  refine⟨hx1,fun h=>absurd hlen h,fun _ _=>rfl,?_⟩
  rintro e rfl he
  rw[show inF 256 (valI e)=true from inF_valI (f:=F5) e]at hin
  cases hin
 obtain⟨vo,rfl,hL⟩:=hr.2.2 hlen hin
 clear hr
 obtain⟨e,he⟩:=to_el (f:=F5) hin
 have he:d=valI e:=he
 subst he
 have hel:e.length=b.cap:=by rw[←hlen,valI_len]
 clear hlen hin
 have hfin:∀{H':Heap} {vo:Value},SlW H' vo (b.wv (b.W e))→NewV H.length vo→(∀x,x<b.n→IsEnc g5 b.ck 0 (blk b e x) (b.W e x))→EncIs b (valI e) H.length H' (.tuple #[vo,.int .i64 0]):=fun {H' vo} h1 h3 h2=>⟨fun h=>absurd (by rw[valI_len];exact hel) h,fun _ h=>(by rw[show inF 256 (valI e)=true from inF_valI (f:=F5) e]at h;cases h),fun d hd _=>by
  have:e=d:=List.map_inj_right (f:=fun x:El F5=>((x.val:Nat):Int)) (fun x y h=>El.ext (by omega)) |>.1 hd
  subst this
  exact⟨_,rfl,h1,h3,h2⟩⟩
 have h1:=hb.sh
 have h2:=hb.n
 have h3:=hb.da
 have h4:=hb.ck
 have h5:=hb.ck2
 have h6:=hb.len
 have h7:=hb.all
 have hbn:b.sh≤b.n:=by unfold Bk.n;omega
 have hsum:b.cap+b.n*b.ck=b.all:=rfl
 have hpos:0<b.n*b.ck:=Nat.mul_pos (by omega) (by omega)
 have hBl:(blks b (valI e)).length=b.n:=by simp[blks]
 obtain⟨av,cv',e1⟩:=hL.sl.len
 rw[hBl]at e1
 subst e1
 (try simp only[ctlB])
 repeat' ((first|refine xSQi ?_|refine xOQi rfl ?_);(try simp only[ctlB]))
 refine xCQi (fun h=>?_) (fun h=>?_)
 ·exfalso;simp at h
 clear h
 (try simp only[ctlB])
 refine xHQi ?_
 refine wpH_call0 (hst (by omega)) ?_
 rintro r H2 ⟨hx2,rfl⟩
 have hL:=hL.mono hx2
 have hx2:=hx1.trans hx2
 have hl2:=hx2.1
 clear hst hx1
 unfold Bk.val
 (try simp only[ctlB])
 repeat' ((first|refine xSQi ?_|refine xOQi rfl ?_);(try simp only[ctlB]))
 generalize hG:H2++_=G at *
 obtain⟨g0,hxG⟩:=box_facts hG
 clear hG
 have hL:=hL.mono hxG
 have hxG:=hx2.trans hxG
 have hlG:=hxG.1
 clear hx2
 refine xHQi ?_
 refine wpH_call0 (codeP (c:=b.ck) (by omega) (by omega) (by omega)) ?_
 rintro r H3 ⟨hx3,rfl⟩
 have hL:=hL.mono hx3
 have hx3:=hxG.trans hx3
 have hl3:=hx3.1
 clear hxG g0
 unfold cdV
 (try simp only[ctlB])
 repeat' ((first|refine xSQi ?_|refine xOQi rfl ?_);(try simp only[ctlB]))
 generalize hG:H3++_=G2 at *
 obtain⟨g0,hxG⟩:=box_facts hG
 clear hG
 have hL:=hL.mono hxG
 have hx4:=hx3.trans hxG
 have hl4:=hx4.1
 have hm0:=Heap.get_lt g0
 clear hxG hx3
 refine xCQi (fun h=>?_) (fun h=>?_)
 ·cases h
 clear h
 (try simp only[ctlB])
 repeat' ((first|refine xSQi ?_|refine xOQi rfl ?_);(try simp only[ctlB]))
 generalize hG:G2++_=G3 at *
 obtain⟨gt,hxG⟩:=box_facts hG
 clear hG
 have gt:Heap.get G3 G2.length=some ([]++List.replicate (b.n-([]:List Value).length) nl):=by
  rw[gt]
  have:∀n:Nat,zeros [Value.slice none 0 0] n=List.replicate n nl:=by
   intro n
   induction n with
   | zero=>rfl
   | succ n ih=>rw[List.replicate_succ,←ih];rfl
  rw[this];rfl
 have g0:=(hxG).get g0
 have hL0s:=hL
 have hL0:=hL
 clear hL
 obtain⟨vs,hs,hvl,hat⟩:=hL0
 rw[hBl]at hvl hat
 obtain⟨bv,spv,capv,ev,gv⟩:=hs.els (by omega)
 rw[hvl]at ev
 cases ev
 clear hs
 have hvlt:=Heap.get_lt gv
 have gv:=hxG.get gv
 have hx5:=hx4.trans hxG
 have hl5:=hx5.1
 have hlt5:=Heap.get_lt gt
 refine aw_for (fun j S H'=>Keep G2.length G3 H'∧(∃C,Heap.get H' G2.length=some (C++List.replicate (b.n-C.length) nl)∧C.length=j∧spiny C=true∧∀x,x<j→IsEnc g5 b.ck 0 (blk b e x) (b.W e x)∧SlE H' (C.getD x nl) ((b.W e x).drop (b.len x)))∧∃(z:Nat→Value),S=[vd,.int .i64 v,.int .i64 l,z 3,z 4,.slice (some ⟨bv,0,spv⟩) b.n cv',z 6,z 7,.pointer (some ⟨H3.length,0,none⟩),.slice (some ⟨G2.length,0,none⟩) b.n b.n,z 10,z 11,z 12,z 13,z 14,z 15,z 16,z 17,z 18,z 19,z 20,z 21,.slice (some ⟨bv,0,spv⟩) b.n cv',.int .i64 (b.n:Nat),.int .i64 (j:Nat),z 25,z 26,z 27,z 28]) b.n ?_ ?_ ?_ ?_
 ·exact⟨keep_ext (Ext.refl _),⟨[],gt,rfl,rfl,by omega⟩,exZGc rfl⟩
 ·rintro j S H' hj ⟨-,-,z,rfl⟩
  exact⟨_,xEQi,by simp⟩
 ·rintro j S H5 hj ⟨k1,⟨C,gC,lC,sC,hC⟩,z,rfl⟩
  have hxj:=k1.ext hxG (Nat.le_refl _)
  have hlj:=k1.len
  have gv:=k1.get gv (by omega)
  have g0:=k1.get g0 (by omega)
  have hvj:=vs_at (vs:=vs) (i:=j) (by omega)
  have hwj:=(hat j hj).mono hxj
  unfold blks at hwj
  rw[range_getD _ hj,blk_val]at hwj
  have hbl:=blk_len (b:=b) (l:=e) (by omega) hj
  have hlev:=hwj.len
  have hse:SlE H5 (vs.getD j nl) (blk b e j):=sli_sle hwj.sli
  rw[valI_len,hbl]at hlev
  obtain⟨aj,cj,ej⟩:=hlev
  rw[ej]at hvj hse
  clear ej hwj hat
  have hle:=b.len_le j
  have hge:=b.len_ge j
  (try simp only[ctlB])
  repeat' ((first|refine xSQi ?_|refine xOQi rfl ?_);(try simp only[ctlB]))
  refine xHQi ?_
  refine wpH_call0 (encR_ok (f:=F5) (g:=g5) (d:=blk b e j) (by omega) gn285 (cdok5 (by omega) (by omega)) hse (by omega)) ?_
  rintro r H6 ⟨hx6,⟨-,-,vw,w,rfl,hvw,hie⟩|⟨hno,-⟩⟩
  case inr=>exact absurd ⟨by omega,by show _<256;omega⟩ hno
  obtain rfl:w=b.W e j:=encW_of (cdok5 (by omega) (by omega)) hie
  have hwl:=hie.len
  rw[hbl]at hwl
  obtain⟨vd',hsl,hvd⟩:=sle_drop (k:=b.len j) hvw (by omega)
  obtain⟨aw,cw,e6⟩:=hvw.len
  rw[hwl]at e6
  rw[e6]at hsl
  subst e6
  have gC:=hx6.get gC
  have hl6:=hx6.1
  clear hvw
  (try simp only[ctlB])
  repeat' ((first|refine xSQi ?_|refine xOQi rfl ?_);(try simp only[ctlB]))
  refine xCQi (fun h=>?_) (fun h=>?_)
  ·exfalso;simp at h
  clear h
  have hvs:=sl_isSl hvd
  obtain⟨ad',cd',e7⟩:=hvd.len
  have hdl2:((b.W e j).drop (b.len j)).length=b.ck:=by rw[List.length_drop];omega
  rw[hdl2]at e7
  subst e7
  have hCl:(C++List.replicate (b.n-C.length) nl).length=b.n:=by simp;omega
  have hset:(C++List.replicate (b.n-C.length) nl).set j (.slice ad' b.ck cd')=(C++[.slice ad' b.ck cd'])++List.replicate (b.n-(C++[Value.slice ad' b.ck cd']).length) nl:=by
   obtain⟨k,hk⟩:∃k,b.n-C.length=k+1:=⟨b.n-C.length-1,by omega⟩
   have e8:b.n-(C++[Value.slice ad' b.ck cd']).length=k:=by simp;omega
   rw[e8,hk,List.replicate_succ,←lC]
   simp
  have hsp:spiny (C++List.replicate (b.n-C.length) nl)=true:=by
   unfold spiny at *
   rw[List.all_append,sC];simp[isSl,nl]
  generalize hG:C++List.replicate (b.n-C.length) nl=CC at *
  clear hG
  replace hset:False∨_:=.inr hset
  (try simp only[ctlB])
  repeat' ((first|refine xSQi ?_|refine xOQi rfl ?_);(try simp only[ctlB]))
  have hkk:Keep G2.length H6 (H6.set G2.length (some (CC.set j (.slice ad' b.ck cd')))):=keep_set (Ext.refl _) _ _
  refine⟨keep_set' (keep_trans k1 (keep_ext hx6)) _,⟨C++[.slice ad' b.ck cd'],?_,by simp[lC],spiny_snoc sC rfl,fun x hx=>?_⟩,exZGc (by first|rfl|(simp only[Int.natCast_add,Int.natCast_one];rfl)|simp only[Int.natCast_add,Int.natCast_one])⟩
  ·rw[get_set_self (by omega),hset.resolve_left id]
  ·by_cases hxj:x<j
   ·rw[getD_snoc_lt (by omega)]
    refine⟨(hC x hxj).1,sl_spiny hkk gC hsp (fun _=>rfl) ?_ ((hC x hxj).2.mono hx6)⟩
    have q1:=(hC x hxj).1.len
    rw[blk_len (b:=b) (l:=e) (by omega) (by omega)]at q1
    rw[List.length_drop];omega
   ·have:x=j:=by omega
    subst this
    rw[getD_snoc_eq lC.symm]
    exact⟨hie,sl_spiny hkk gC hsp (fun _=>rfl) (by omega) hvd⟩
 ·clear hat gv
  rintro S H5 ⟨k1,⟨C,gC,lC,sC,hC⟩,z,rfl⟩
  have hLC:SlL H5 (.slice (some ⟨G2.length,0,none⟩) b.n b.n) (b.chks (b.W e)):=by
   have hz:C++List.replicate (b.n-C.length) nl=C:=by rw[lC,Nat.sub_self,List.replicate_zero,List.append_nil]
   rw[hz]at gC
   refine⟨C,.inr ⟨G2.length,none,b.n,by rw[lC],gC⟩,by simp[Bk.chks,lC],fun x hx=>?_⟩
   have hx:x<b.n:=by simpa[Bk.chks]using hx
   unfold Bk.chks
   rw[range_getD _ hx]
   exact sle_sli (hC x hx).2
  have hie:∀x,x<b.n→IsEnc g5 b.ck 0 (blk b e x) (b.W e x):=fun x hx=>(hC x hx).1
  have hwl:∀x,x<b.n→(b.W e x).length=b.len x+b.ck:=fun x hx=>by rw[(hie x hx).len,blk_len (b:=b) (l:=e) (by omega) hx]
  have hxj:=k1.ext hxG (Nat.le_refl _)
  have hL1:=(hL0s.mono hxj).sl
  have hl6:=hxj.1
  have hCl:(b.chks (b.W e)).length=b.n:=by simp[Bk.chks]
  have hi1:=blks_ilv hel hie
  have hi2:=chks_ilv hwl
  have ht1:tot (blks b (valI e))=b.cap:=by rw[←ilv_full (d:=(0:Int)) _ (fun l hl=>le_mxl hl),hi1,List.length_map,b.plD_len]
  have ht2:tot (b.chks (b.W e))=b.n*b.ck:=by rw[←ilv_full (d:=(0:Int)) _ (fun l hl=>le_mxl hl),hi2,List.length_map,plC_len]
  clear hC gC lC sC g0
  (try simp only[ctlB])
  refine xHQi ?_
  refine wpH_call0 (ilvP (L:=blks b (valI e)) (by omega) hL1 (by omega) (by omega) (by omega)) ?_
  rintro r H6 ⟨hx6,t1,q1,rfl,c1⟩
  have hLC:=hLC.mono hx6
  have hl7:=hx6.1
  (try simp only[ctlB])
  refine xHQi ?_
  refine wpH_call0 (ilvP (L:=b.chks (b.W e)) (by omega) hLC (by omega) (by omega) (by omega)) ?_
  rintro r H7 ⟨hx7,t2,q2,rfl,c2⟩
  have c1:=hx7.get c1
  have hl8:=hx7.1
  rw[hi1]at c1
  rw[hi2]at c2
  have hm1:(b.plD.map fun p=>(((co (b.W e p.1) p.2).val:Nat):Int)).length=b.cap:=by rw[List.length_map,b.plD_len]
  have hm2:(b.plC.map fun p=>(((co (b.W e p.1) p.2).val:Nat):Int)).length=b.n*b.ck:=by rw[List.length_map,plC_len]
  have hcat:(intL (b.plD.map fun p=>(((co (b.W e p.1) p.2).val:Nat):Int))).take (b.cap*1)++intL (b.plC.map fun p=>(((co (b.W e p.1) p.2).val:Nat):Int))=intL (b.wv (b.W e)):=by
   rw[List.take_of_length_le (by rw[intL_len,hm1];omega),←intL_app,←List.map_append];rfl
  have hxx:=((hx4.trans hxj).trans hx6).trans hx7
  rw[ht1,ht2]
  have hwvl:=wv_len b (b.W e)
  clear ht1 ht2 hi1 hi2 hCl hLC hL1 hwl hBl hvl
  generalize (b.plD.map fun p=>(((co (b.W e p.1) p.2).val:Nat):Int))=Z1 at *
  generalize (b.plC.map fun p=>(((co (b.W e p.1) p.2).val:Nat):Int))=Z2 at *
  (try simp only[ctlB])
  refine xHQi ?_
  refine wpH_app_full (b:=t1) (D:=intL Z1) (n:=b.cap) (k:=b.n*b.ck) (c:=intL Z2) (by omega) (by omega) c1 (by rw[intL_len,hm1];omega) c2 (by rw[intL_len,hm2];omega) (by rw[List.drop_zero,List.take_of_length_le (by rw[intL_len,hm2];omega)]) (intL_one' _) ?_
  rw[hcat]
  have hf2:SlW (H7++[some (intL (b.wv (b.W e)))]) (.slice (some ⟨H7.length,0,some 1⟩) (b.cap+b.n*b.ck) (b.cap+b.n*b.ck)) (b.wv (b.W e)):=.inr ⟨H7.length,some 1,_,by rw[hwvl];rw[hsum],get_app0,.inr rfl,by omega⟩
  have hfin:=hfin hf2 (NewV.mk (by omega)) hie
  clear hcat c1 c2 hm1 hm2 hsum hf2 hie
  generalize b.cap+b.n*b.ck=T at *
  (try simp only[ctlB])
  repeat' ((first|refine xSQi ?_|refine xOQi rfl ?_);(try simp only[ctlB]))
  refine xRQi ?_
  exact⟨hxx.trans (Ext.app _ _),hfin⟩
end
end Go.Proofs.YtkeagffmmhllcaaGreat
namespace Go.Proofs.YtkeagffmmhllcaaGreat
open Go.Abs Go.RS
set_option linter.unusedSimpArgs false
set_option linter.unusedVariables false
def Bk.at(b:Bk)(i:Nat):Nat×Nat:=b.pl.getD i (0,0)
def Bk.pos(b:Bk)(x k:Nat):Nat:=b.pl.idxOf (x,k)
theorem Bk.at_eq(b:Bk){i:Nat}(h:i<b.all):b.at i=b.pl[i]'(by rw[b.pl_len];exact h):=by
 unfold Bk.at;rw[List.getD_eq_getElem?_getD,List.getElem?_eq_getElem (by rw[b.pl_len];exact h)];rfl
theorem Bk.at_in(b:Bk){i:Nat}(h:i<b.all):(b.at i).1<b.n∧(b.at i).2<b.len (b.at i).1+b.ck:=by
 rw[b.at_eq h];exact Bk.mem_pl.1 (List.getElem_mem _)
theorem Bk.pos_at(b:Bk){i:Nat}(h:i<b.all):b.pos (b.at i).1 (b.at i).2=i:=by
 unfold Bk.pos
 rw[b.at_eq h]
 exact b.nodup_pl.idxOf_getElem i _
theorem Bk.pos_lt(b:Bk){x k:Nat}(hx:x<b.n)(hk:k<b.len x+b.ck):b.pos x k<b.all:=by
 unfold Bk.pos;rw[←b.pl_len];exact List.idxOf_lt_length_iff.2 (Bk.mem_pl.2 ⟨hx,hk⟩)
theorem Bk.at_pos(b:Bk){x k:Nat}(hx:x<b.n)(hk:k<b.len x+b.ck):b.at (b.pos x k)=(x,k):=by
 rw[b.at_eq (b.pos_lt hx hk)]
 exact List.getElem_idxOf _
theorem Bk.plI_at(b:Bk){i:Nat}(h:i<b.all):b.plI.getD i (0,0)=((((b.at i).1:Nat):Int),(((b.at i).2:Nat):Int)):=by
 unfold Bk.plI
 rw[List.getD_eq_getElem?_getD,List.getElem?_map,List.getElem?_eq_getElem (by rw[b.pl_len];exact h),b.at_eq h];rfl
def wdI(b:Bk)(wl:List Int)(er:Nat→Bool)(i x:Nat):List Int:=(List.range (b.len x+b.ck)).map fun k=>if b.pos x k<i∧er (b.pos x k)=false then wl.getD (b.pos x k) 0 else 0
def losI(b:Bk)(er:Nat→Bool)(i x:Nat):List Int:=((List.range i).filter fun j=>decide ((b.at j).1=x)&&er j).map fun j=>(((b.at j).2:Nat):Int)
section
variable {b:Bk}{wl:List Int}{er:Nat→Bool}{i x:Nat}
theorem wdI_len:(wdI b wl er i x).length=b.len x+b.ck:=by simp[wdI]
theorem wdI_zero:wdI b wl er 0 x=List.replicate (b.len x+b.ck) 0:=by
 unfold wdI
 rw[List.map_congr_left (g:=fun _=>(0:Int)) (fun k _=>if_neg (by omega))]
 simp[List.map_const']
theorem wdI_er(hx:x<b.n)(hi:er i=true):wdI b wl er (i+1) x=wdI b wl er i x:=by
 refine List.map_congr_left fun k hk=>?_
 by_cases h:b.pos x k=i
 ·rw[if_neg (by rw[h,hi];simp),if_neg (by omega)]
 ·by_cases h2:b.pos x k<i∧er (b.pos x k)=false
  ·rw[if_pos ⟨by omega,h2.2⟩,if_pos h2]
  ·rw[if_neg (fun h3=>h2 ⟨by omega,h3.2⟩),if_neg h2]
theorem wdI_ne(hx:x<b.n)(hi:i<b.all)(hne:x≠(b.at i).1):wdI b wl er (i+1) x=wdI b wl er i x:=by
 refine List.map_congr_left fun k hk=>?_
 have hk:=List.mem_range.1 hk
 have h:b.pos x k≠i:=by
  intro h
  have:=b.at_pos hx hk
  rw[h]at this
  exact hne (by rw[this])
 by_cases h2:b.pos x k<i∧er (b.pos x k)=false
 ·rw[if_pos ⟨by omega,h2.2⟩,if_pos h2]
 ·rw[if_neg (fun h3=>h2 ⟨by omega,h3.2⟩),if_neg h2]
theorem wdI_set(hi:i<b.all)(he:er i=false):(wdI b wl er i (b.at i).1).set (b.at i).2 (wl.getD i 0)=wdI b wl er (i+1) (b.at i).1:=by
 obtain⟨h1,h2⟩:=b.at_in hi
 unfold wdI
 refine range_setG h2 ?_ fun k hk hne=>?_
 ·rw[b.pos_at hi,if_pos ⟨by omega,he⟩]
 ·have h:b.pos (b.at i).1 k≠i:=by
   intro h
   have:=b.at_pos h1 hk
   rw[h]at this
   exact hne (by rw[this])
  by_cases h2:b.pos (b.at i).1 k<i∧er (b.pos (b.at i).1 k)=false
  ·rw[if_pos ⟨by omega,h2.2⟩,if_pos h2]
  ·rw[if_neg (fun h3=>h2 ⟨by omega,h3.2⟩),if_neg h2]
theorem losI_succ:losI b er (i+1) x=losI b er i x++if (b.at i).1=x∧er i=true then[(((b.at i).2:Nat):Int)] else[]:=by
 unfold losI
 rw[List.range_succ,List.filter_append,List.map_append]
 congr 1
 by_cases h:(b.at i).1=x∧er i=true
 ·rw[if_pos h,List.filter_cons,if_pos (by simp[h.1,h.2])];rfl
 ·rw[if_neg h,List.filter_cons,if_neg (by simpa using h)];rfl
theorem losI_le:(losI b er i x).length≤i:=by
 unfold losI;rw[List.length_map]
 exact Nat.le_trans (List.length_filter_le _ _) (by simp)
theorem losI_in(hi:i≤b.all):inR (b.len x+b.ck) (losI b er i x):=by
 intro y hy
 unfold losI at hy
 obtain⟨j,hj,rfl⟩:=List.mem_map.1 hy
 obtain⟨h1,h2⟩:=List.mem_filter.1 hj
 have h1:=List.mem_range.1 h1
 simp only[Bool.and_eq_true,decide_eq_true_eq]at h2
 have:=(b.at_in (i:=j) (by omega)).2
 rw[h2.1]at this
 omega
theorem losI_er{k:Nat}(hx:x<b.n)(hk:k<b.len x+b.ck):erI (losI b er b.all x) k=er (b.pos x k):=by
 unfold erI losI
 rw[Bool.eq_iff_iff,decide_eq_true_eq,List.mem_map]
 constructor
 ·rintro⟨j,hj,e⟩
  obtain⟨h1,h2⟩:=List.mem_filter.1 hj
  have h1:=List.mem_range.1 h1
  simp only[Bool.and_eq_true,decide_eq_true_eq]at h2
  have e2:b.at j=(x,k):=Prod.ext h2.1 (by simp only;omega)
  have:=b.pos_at h1
  rw[e2]at this
  simp only at this
  rw[this];exact h2.2
 ·intro h
  refine⟨b.pos x k,List.mem_filter.2 ⟨List.mem_range.2 (b.pos_lt hx hk),?_⟩,?_⟩
  ·rw[b.at_pos hx hk];simp[h]
  ·rw[b.at_pos hx hk]
end
def wdE(b:Bk)(wl:List Int)(er:Nat→Bool)(x:Nat):List (El F5):=(wdI b wl er b.all x).map fun n=>eB 285 n.toNat
theorem wdE_len(b:Bk)(wl:List Int)(er:Nat→Bool)(x:Nat):(wdE b wl er x).length=b.len x+b.ck:=by unfold wdE;rw[List.length_map,wdI_len]
def Rd(b:Bk)(wl:List Int)(er:Nat→Bool):Prop:=∀i,i<b.all→er i=false→0≤wl.getD i 0∧wl.getD i 0≤255
theorem wdE_val{b:Bk}{wl:List Int}{er:Nat→Bool}{x:Nat}(hx:x<b.n)(h:Rd b wl er):valI (wdE b wl er x)=wdI b wl er b.all x:=by
 unfold valI wdE wdI
 rw[List.map_map,List.map_map]
 refine List.map_congr_left fun k hk=>?_
 have hk:=List.mem_range.1 hk
 have hp:=b.pos_lt hx hk
 have h2:=h _ hp
 simp only[Function.comp,eB]
 split
 ·rename_i h3
  have:=h2 h3.2
  omega
 ·rfl
theorem wdE_at{b:Bk}{wl:List Int}{er:Nat→Bool}{x k:Nat}(hx:x<b.n)(hk:k<b.len x+b.ck):co (wdE b wl er x) k=if er (b.pos x k)=false then eB 285 (wl.getD (b.pos x k) 0).toNat else 0:=by
 have hp:=b.pos_lt hx hk
 unfold co wdE wdI
 rw[List.map_map,range_getD _ hk]
 simp only[Function.comp]
 by_cases h:er (b.pos x k)=false
 ·rw[if_pos ⟨hp,h⟩,if_pos h]
 ·rw[if_neg (fun h2=>h h2.2),if_neg h];rfl
def OkX(b:Bk)(wl:List Int)(er:Nat→Bool)(x:Nat):Prop:=DecOK g5 b.ck 0 (wdE b wl er x) (erI (losI b er b.all x))
noncomputable def fxX(b:Bk)(wl:List Int)(er:Nat→Bool)(x:Nat):List (El F5):=fixW g5 b.ck 0 (wdE b wl er x) (erI (losI b er b.all x))
theorem fxX_len(b:Bk)(wl:List Int)(er:Nat→Bool)(x:Nat):(fxX b wl er x).length=b.len x+b.ck:=by unfold fxX;rw[fixW_len,wdE_len]
noncomputable def Bk.dat(b:Bk)(W:Nat→List (El F5))(j:Nat):List Int:=(List.range j).flatMap fun x=>valI ((W x).take (b.len x))
theorem dat_succ(b:Bk)(W:Nat→List (El F5))(j:Nat):b.dat W (j+1)=b.dat W j++valI ((W j).take (b.len j)):=by
 unfold Bk.dat;rw[List.range_succ,List.flatMap_append];simp
theorem dat_len{b:Bk}{W:Nat→List (El F5)}(hW:∀x,x<b.n→b.len x≤(W x).length):∀j,j≤b.n→(b.dat W j).length=b.off j
 | 0,_=>by simp[Bk.dat,Bk.off]
 | j+1,h=>by
  have:=hW j (by omega)
  rw[dat_succ,List.length_append,dat_len hW j (by omega),b.off_succ,valI_len,List.length_take];omega
end Go.Proofs.YtkeagffmmhllcaaGreat
namespace Go.Proofs.YtkeagffmmhllcaaGreat
open Go.Abs Go.RS
set_option linter.unusedSimpArgs false
set_option linter.unusedVariables false
set_option maxRecDepth 20000
theorem own_appI{cp:FuncId→Option CF}{lo base:Nat}{z:List Value}{H:Heap}{v w:Value}{b:Nat}{A l:List Int}{R:Value→Heap→Prop}(ho:Own base 1 H v b (intL A))(hlo:lo≤base)(hbl:base≤H.length)(hl:SlI H w l)(hne:0<l.length)(hbig:A.length+l.length≤4294967296)
  (k:∀v' H',Own base 1 H' v' H.length (intL (A++l))→Keep b H H'→H'.length=H.length+1→R v' H'):wpH cp lo (.app 1 z) [v,w] H R:=by
 rcases hl with ⟨rfl,rfl⟩|⟨b',o,sp,cap,xs,rfl,h2,h3,h4,h5⟩
 ·simp at hne
 ·refine wpH_app (b:=b) (cells:=intL A) (c:=intL l) (ho.lower hlo) (by omega) (by omega) hne (by rw[intL_len];omega) h2 (by omega) (by rw[Nat.mul_one,h3];rfl) (intL_one' l) ?_
  intro v' H' a1 a2 a3
  refine k v' H' ⟨hbl,?_⟩ a2 a3
  rw[intL_app];exact a1.2
def NotAt(b:Nat)(v:Value):Prop:=∀b' o sp k c,v=.slice (some ⟨b',o,sp⟩) k c→b'≠b
theorem Sl.off{α:Type}{enc:α→Value}{H H':Heap}{v:Value}{l:List α}{b:Nat}(h:Sl enc H v l)(hk:Keep b H H')(hn:NotAt b v):Sl enc H' v l:=by
 rcases h with h|⟨b',o,sp,cap,xs,h1,h2,h3⟩
 ·exact .inl h
 ·exact .inr ⟨b',o,sp,cap,xs,h1,hk.get h2 (hn _ _ _ _ _ h1),h3⟩
theorem Sl.notAt{α:Type}{enc:α→Value}{H:Heap}{v:Value}{l:List α}{n:Nat}(h:Sl enc H v l)(hn:H.length≤n):NotAt n v:=by
 rintro b' o sp k c rfl
 rcases h with ⟨h,_⟩|⟨b2,o2,sp2,cap,xs,h1,h2,h3⟩
 ·cases h
 ·cases h1
  have:=Heap.get_lt h2
  omega
theorem NewV.notAt{n b:Nat}{v:Value}(h:NewV n v)(hb:b<n):NotAt b v:=fun b' o sp k c e=>by have:=h b' o sp k c e;omega
theorem sl_spiny'{α:Type}{enc:α→Value}{H H':Heap}{v:Value}{l:List α}{t:Nat}{D D':List Value}(hk:Keep t H H')(hD:H.get t=some D)(hs:spiny D=true)(hD':H'.get t=some D')(hl:D'.length=D.length)(henc:∀x,isSl (enc x)=false)(h:Sl enc H v l):Sl enc H' v l:=by
 by_cases h0:0<l.length
 ·exact sl_spiny hk hD hs henc h0 h
 ·have:l=[]:=List.length_eq_zero_iff.1 (by omega)
  subst this
  rcases h with h|⟨b,o,sp,cap,xs,h1,h2,h3,h4,h5⟩
  ·exact .inl h
  ·by_cases e:b=t
   ·subst e
    rw[hD]at h2;cases h2
    exact .inr ⟨b,o,sp,cap,D',h1,hD',by simp,by simp at h4 ⊢;omega,h5⟩
   ·exact .inr ⟨b,o,sp,cap,xs,h1,hk.get h2 e,h3,h4,h5⟩
def CorIs(b:Bk)(wl:List Int)(er:Nat→Bool)(H:Heap)(r:Value):Prop:=
 ((∀x,x<b.n→OkX b wl er x)→∃vd vb vs,r=.tuple #[vd,vb,.int .i64 0]∧SlI H vd (b.dat (fxX b wl er) b.n)∧SlS H vb vs∧vs.length=b.n∧∀x,x<b.n→SlI H (vs.getD x nl) (valI (fxX b wl er x))) ∧
 (¬ (∀x,x<b.n→OkX b wl er x)→r=.tuple #[.slice none 0 0,.slice none 0 0,.int .i64 17])
section
variable {lo:Nat}{H:Heap}
set_option maxHeartbeats 1000000 in
theorem correctB{b:Bk}{wl:List Int}{er:Nat→Bool}{d4 s t9 t10:Nat}{V L:List Value}{R:Value→Heap→Prop}{S:List Value}(hS:∃(z:Nat→Value),S=[z 0,z 1,z 2,z 3,.pointer (some ⟨d4,0,none⟩),z 5,z 6,z 7,.slice (some ⟨s,0,none⟩) b.n b.n,.slice (some ⟨t9,0,none⟩) b.n b.n,.slice (some ⟨t10,0,none⟩) b.n b.n,z 11,z 12,z 13,z 14,z 15,z 16,z 17,z 18,z 19,z 20,z 21,z 22,z 23,z 24,z 25,z 26,z 27,z 28,z 29,z 30,z 31,z 32,z 33,z 34,z 35,z 36,z 37,z 38,z 39,z 40,z 41,z 42,z 43,z 44,z 45,z 46,z 47,z 48,z 49,z 50,z 51])(hb:b.Ok)(hrd:Rd b wl er)(hlo:lo≤t9)(h49:d4<t9)(hs9:s<t9)(h910:t9<t10)(g4:H.get d4=some b.cells)(gs:H.get s=some (intL b.lens))(g9:H.get t9=some V)(g10:H.get t10=some L)
  (hV:V.length=b.n) (hL:L.length=b.n) (hVs:spiny V=true) (hall:∀x,x<b.n→SlI H (V.getD x nl) (wdI b wl er b.all x)∧SlI H (L.getD x nl) (losI b er b.all x))
  (hR:∀v H',Keep t9 H H'→CorIs b wl er H' v→R v H') :
  wpS cp lo (tl 6 bd23) (bodyQ cf23 R) S H:=by
 obtain⟨z,rfl⟩:=hS
 unfold bd23 cf23
 simp only[tl,kB,ctlB]
 have h1:=hb.sh
 have h2:=hb.n
 have h3:=hb.da
 have h4:=hb.ck
 have h5:=hb.ck2
 have h6:=hb.len
 have h7:=hb.all
 have hbn:b.sh≤b.n:=by unfold Bk.n;omega
 have hsum:b.cap+b.n*b.ck=b.all:=rfl
 have l4:=Heap.get_lt g4
 have l9:=Heap.get_lt g9
 have l10:=Heap.get_lt g10
 repeat' ((first|refine xSQi ?_|refine xOQi rfl ?_);(try simp only[ctlB]))
 refine xHQi ?_
 refine wpH_call0 (codeP (c:=b.ck) (by omega) (by omega) (by omega)) ?_
 rintro r H1 ⟨hx1,rfl⟩
 have hl1:=hx1.1
 unfold cdV
 (try simp only[ctlB])
 repeat' ((first|refine xSQi ?_|refine xOQi rfl ?_);(try simp only[ctlB]))
 generalize hG:H1++_=G at *
 obtain⟨gc,hxG⟩:=box_facts hG
 clear hG
 have hxG:=hx1.trans hxG
 have hlG:=hxG.1
 have hlc:=Heap.get_lt gc
 have g4:=(hxG).get g4;have gs:=(hxG).get gs;have g9:=(hxG).get g9;have g10:=(hxG).get g10
 have hall:∀x,x<b.n→SlI G (V.getD x nl) (wdI b wl er b.all x)∧SlI G (L.getD x nl) (losI b er b.all x):=fun x hx=>⟨(hall x hx).1.mono hxG,(hall x hx).2.mono hxG⟩
 have h11:t10<H1.length∧t9<H1.length:=by omega
 clear hx1 hl1
 refine xCQi (fun h=>?_) (fun h=>?_)
 ·cases h
 clear h
 (try simp only[ctlB])
 repeat' ((first|refine xSQi ?_|refine xOQi rfl ?_);(try simp only[ctlB]))
 refine aw_for (fun j S H'=>Keep t9 G H'∧(∀x,x<j→OkX b wl er x)∧(∃V',H'.get t9=some V'∧V'.length=b.n∧spiny V'=true∧(∀x,x<j→SlE H' (V'.getD x nl) (fxX b wl er x))∧(∀x,j≤x→x<b.n→V'.getD x nl=V.getD x nl)∧∃vd bd,Own G.length 1 H' vd bd (intL (b.dat (fxX b wl er) j))∧(∀x,x<j→NotAt bd (V'.getD x nl))∧∃(z:Nat→Value),S=[z 0,z 1,z 2,z 3,.pointer (some ⟨d4,0,none⟩),z 5,z 6,z 7,.slice (some ⟨s,0,none⟩) b.n b.n,.slice (some ⟨t9,0,none⟩) b.n b.n,.slice (some ⟨t10,0,none⟩) b.n b.n,z 11,z 12,z 13,z 14,.pointer (some ⟨H1.length,0,none⟩),z 16,vd,z 18,z 19,z 20,z 21,z 22,z 23,z 24,z 25,z 26,z 27,z 28,z 29,z 30,z 31,z 32,z 33,z 34,z 35,z 36,z 37,z 38,z 39,z 40,z 41,z 42,z 43,z 44,.slice (some ⟨s,0,none⟩) b.n b.n,.int .i64 (b.n:Nat),.int .i64 (j:Nat),z 48,z 49,z 50,z 51])) b.n ?_ ?_ ?_ ?_
 ·exact⟨keep_ext (Ext.refl _),by omega,V,g9,hV,hVs,by omega,fun _ _ _=>rfl,_,G.length,Own.nil (Nat.le_refl _),by omega,exZGc rfl⟩
 ·rintro j S H' hj ⟨-,-,V',-,-,-,-,-,vd,bd,-,-,z,rfl⟩
  exact⟨_,xEQi,by simp⟩
 ·rintro j S H2 hj ⟨k1,hok,V',g9',hV',hVs',hdone,htodo,vd,bd,oo,hna,z,rfl⟩
  have hk0:=k1
  have gs:=k1.get gs (by omega)
  have g4:=k1.get g4 (by omega)
  have g10:=k1.get g10 (by omega)
  have gc':=k1.get gc (by omega)
  have hl2:=k1.len
  have hat:=lens_at b hj
  have hln:=lens_len b
  have hvj:=vs_at (vs:=V') (i:=j) (by omega)
  have hlj:=vs_at (vs:=L) (i:=j) (by omega)
  rw[htodo j (Nat.le_refl _) hj]at hvj
  have hw1:=sl_spiny' k1 g9 hVs g9' (by omega) (fun _=>rfl) (hall j hj).1
  have hw2:=sl_spiny' k1 g9 hVs g9' (by omega) (fun _=>rfl) (hall j hj).2
  rw[←wdE_val hj hrd]at hw1
  have hw1:SlE H2 (V.getD j nl) (wdE b wl er j):=sli_sle hw1
  have hwl:=wdE_len b wl er j
  have hle:=b.len_le j
  have hge:=b.len_ge j
  have hlol:=losI_le (b:=b) (er:=er) (i:=b.all) (x:=j)
  have hin:=losI_in (er:=er) (x:=j) (Nat.le_refl b.all)
  have hdl:=dat_len (b:=b) (W:=fxX b wl er) (fun x _=>by rw[fxX_len];omega) j (by omega)
  have hoff:=b.off_in hj
  generalize b.lens=LE at *
  generalize hvv:V.getD j nl=vv at *
  generalize L.getD j nl=ll at *
  have hcase:(vd=.slice none 0 0∧intL (b.dat (fxX b wl er) j)=[])∨bd<H2.length:=by
   obtain⟨_,h|⟨_,_,_,_,h⟩⟩:=oo
   ·exact .inl h
   ·exact .inr (Heap.get_lt h)
  clear hvv hall
  (try simp only[ctlB])
  repeat' ((first|refine xSQi ?_|refine xOQi rfl ?_);(try simp only[ctlB]))
  refine xHQi ?_
  refine wpH_call0 (decR_okN (f:=F5) (g:=g5) (w:=wdE b wl er j) (e:=losI b er b.all j) (by omega) gn285 (cdok5 (by omega) (by omega)) hw1 (by omega) hw2 (by omega)) ?_
  rintro r H3 ⟨hx3,-,-,hbad,hgood⟩
  rw[hwl]at hbad hgood
  have hbad:=hbad hin (by omega) (by show _<256;omega)
  have hgood:=hgood hin (by omega) (by show _<256;omega)
  clear hw1 hw2 hin
  by_cases hx:OkX b wl er j
  case neg=>
   rw[hbad hx]
   clear hbad hgood
   unfold decE
   have k3:=keep_trans hk0 (keep_ext hx3)
   have hl3:=hx3.1
   (try simp only[ctlB])
   repeat' ((first|refine xSQi ?_|refine xOQi rfl ?_);(try simp only[ctlB]))
   refine xCQi (fun h=>?_) (fun h=>?_)
   case refine_2=>exfalso;simp at h
   clear h
   (try simp only[ctlB])
   repeat' ((first|refine xSQi ?_|refine xOQi rfl ?_);(try simp only[ctlB]))
   refine xRQi ?_
   exact hR _ _ (keep_trans (keep_ext hxG) (keep_trans k3 (keep_ext (Ext.app _ _)))) ⟨fun h=>absurd (h j hj) hx,fun _=>rfl⟩
  obtain⟨vw,vc,rfl,hvw,hvc,hnew,-⟩:=hgood hx
  have hvw:SlE H3 vw (fxX b wl er j):=hvw
  have hvs:=sl_isSl hvw
  have hfl:=fxX_len b wl er j
  obtain⟨vt,hsl,hvt⟩:=sl_head (k:=b.len j) hvw (by omega)
  obtain⟨ac,kc,rfl⟩:=hvc.len
  clear hbad hgood hvc
  have g9':=(hx3).get g9';have gs:=(hx3).get gs;have g10:=(hx3).get g10;have gc':=(hx3).get gc'
  have hl3:=hx3.1
  have hdone:∀x,x<j→SlE H3 (V'.getD x nl) (fxX b wl er x):=fun x hx=>(hdone x hx).mono hx3
  have oo:=oo.mono hx3
  obtain⟨aw,cw,ew⟩:=hvw.len
  rw[hfl]at ew
  subst ew
  (try simp only[ctlB])
  repeat' ((first|refine xSQi ?_|refine xOQi rfl ?_);(try simp only[ctlB]))
  generalize hG:H3++_=H4 at *
  obtain⟨gr,hxr⟩:=box_facts hG
  have hl4:H3.length+1≤H4.length∧H4.length≤H3.length+1:=by rw[←hG];simp
  clear hG
  have g9:=hxr.get g9'
  clear g9'
  have gs:=(hxr).get gs;have g10:=(hxr).get g10;have gc':=(hxr).get gc'
  have hl9':=Heap.get_lt g9
  have hset:V'.set j (.slice aw (b.len j+b.ck) cw)=V'.set j (.slice aw (b.len j+b.ck) cw):=rfl
  refine xCQi (fun h=>?_) (fun h=>?_)
  ·cases h
  clear h
  (try simp only[ctlB])
  repeat' ((first|refine xSQi ?_|refine xOQi rfl ?_);(try simp only[ctlB]))
  have hk4:Keep t9 H4 (H4.set t9 (some (V'.set j (.slice aw (b.len j+b.ck) cw)))):=keep_set (Ext.refl _) _ _
  have g9n:Heap.get (H4.set t9 (some (V'.set j (.slice aw (b.len j+b.ck) cw)))) t9=some (V'.set j (.slice aw (b.len j+b.ck) cw)):=get_set_self (by omega)
  have hlen5:(H4.set t9 (some (V'.set j (.slice aw (b.len j+b.ck) cw)))).length=H4.length:=by simp
  have hVn:(V'.set j (.slice aw (b.len j+b.ck) cw)).length=b.n:=by simp[hV']
  have hVsn:spiny (V'.set j (.slice aw (b.len j+b.ck) cw))=true:=by
   unfold spiny at *
   rw[List.all_eq_true]at *
   intro y hy
   rcases List.mem_or_eq_of_mem_set hy with h|h
   ·exact hVs' y h
   ·rw[h];rfl
  have hmv:∀{v:Value} {l:List (El F5)},SlE H3 v l→SlE (H4.set t9 (some (V'.set j (.slice aw (b.len j+b.ck) cw)))) v l:=fun h=>sl_spiny' hk4 g9 hVs' g9n (by omega) (fun _=>rfl) (h.mono hxr)
  have oo:Own G.length 1 (H4.set t9 (some (V'.set j (.slice aw (b.len j+b.ck) cw)))) vd bd (intL (b.dat (fxX b wl er) j)):=by
   obtain⟨q1,q2|⟨q,q2,q3,q4,q5⟩⟩:=oo.mono hxr
   ·exact⟨q1,.inl q2⟩
   ·exact⟨q1,.inr ⟨q,q2,q3,q4,hk4.get q5 (by omega)⟩⟩
  have hvw:=hmv hvw
  have hvt:=hmv hvt
  have hdone:=fun x hx=>hmv (hdone x hx)
  have gr:=hk4.get gr (by omega)
  have k5:Keep t9 G (H4.set t9 (some (V'.set j (.slice aw (b.len j+b.ck) cw)))):=keep_trans (keep_trans hk0 (keep_ext (hx3.trans hxr))) hk4
  clear hmv
  have hVat:∀x,(V'.set j (.slice aw (b.len j+b.ck) cw)).getD x nl=if x=j then .slice aw (b.len j+b.ck) cw else V'.getD x nl:=by
   intro x
   rw[List.getD_eq_getElem?_getD,List.getElem?_set]
   by_cases e:x=j
   ·rw[if_pos e.symm,if_pos (by omega),if_pos e];rfl
   ·rw[if_neg (Ne.symm e),if_neg e,←List.getD_eq_getElem?_getD]
  generalize H4.set t9 (some (V'.set j (.slice aw (b.len j+b.ck) cw)))=H5 at *
  have hlen5:H4.length≤H5.length∧H5.length≤H4.length:=by omega
  obtain⟨b2,o2,hb9,hb2⟩:∃b2,Own G.length 1 H5 vd b2 (intL (b.dat (fxX b wl er) j))∧(t9≠b2)∧(NotAt b2 (.slice aw (b.len j+b.ck) cw))∧∀x,x<j→NotAt b2 (V'.getD x nl):=by
   rcases hcase with ⟨h1,h2⟩|h1
   ·rw[h1,h2]
    exact⟨H5.length,Own.nil (by omega),by omega,Sl.notAt hvw (Nat.le_refl _),fun x hx=>Sl.notAt (hdone x hx) (Nat.le_refl _)⟩
   ·have hh:=oo.1
    exact⟨bd,oo,by omega,hnew.notAt h1,hna⟩
  have htl:((fxX b wl er j).take (b.len j)).length=b.len j:=by rw[List.length_take];omega
  have hvt:=sle_sli hvt
  rw[←valI_len]at htl
  (try simp only[ctlB])
  refine xHQi ?_
  refine own_appI o2 (by omega) (by omega) hvt (by omega) (by omega) ?_
  rw[←dat_succ]
  intro vd' H6 oo' hk6 hl6
  have hl6:H5.length+1≤H6.length∧H6.length≤H5.length+1:=by omega
  have hfin1:∀x,x<j+1→SlE H6 ((V'.set j (.slice aw (b.len j+b.ck) cw)).getD x nl) (fxX b wl er x):=by
   intro x hx
   rw[hVat]
   by_cases e:x=j
   ·rw[if_pos e,e];exact Sl.off hvw hk6 hb2.1
   ·rw[if_neg e];exact Sl.off (hdone x (by omega)) hk6 (hb2.2 x (by omega))
  have hk7:Keep t9 G H6:=⟨Nat.le_trans k5.len hk6.len,fun i hi hne=>(hk6.eq i (Nat.lt_of_lt_of_le hi k5.len) (by have:=o2.1;omega)).trans (k5.eq i hi hne)⟩
  have g9':=hk6.get g9n hb9
  have hna':∀x,x<j+1→NotAt H5.length ((V'.set j (.slice aw (b.len j+b.ck) cw)).getD x nl):=by
   intro x hx
   rw[hVat]
   by_cases e:x=j
   ·rw[if_pos e];exact Sl.notAt hvw (Nat.le_refl _)
   ·rw[if_neg e];exact Sl.notAt (hdone x (by omega)) (Nat.le_refl _)
  have htodo':∀x,j+1≤x→x<b.n→(V'.set j (.slice aw (b.len j+b.ck) cw)).getD x nl=V.getD x nl:=fun x h1 h2=>by
   rw[hVat,if_neg (by omega)];exact htodo x (by omega) h2
  clear hVat g9n hset
  generalize V'.set j (.slice aw (b.len j+b.ck) cw)=V2 at *
  (try simp only[ctlB])
  repeat' ((first|refine xSQi ?_|refine xOQi rfl ?_);(try simp only[ctlB]))
  refine⟨hk7,fun x hx2=>?_,V2,g9',hVn,hVsn,hfin1,htodo',vd',_,oo',hna',exZGc (by first|rfl|(simp only[Int.natCast_add,Int.natCast_one];rfl)|simp only[Int.natCast_add,Int.natCast_one])⟩
  by_cases e:x=j
  ·rw[e];exact hx
  ·exact hok x (by omega)
 ·rintro S H2 ⟨k1,hok,V',g9',hV',hVs',hdone,htodo,vd,bd,oo,hna,z,rfl⟩
  (try simp only[ctlB])
  repeat' ((first|refine xSQi ?_|refine xOQi rfl ?_);(try simp only[ctlB]))
  refine xRQi ?_
  refine hR _ _ (keep_trans (keep_ext hxG) k1) ⟨fun _=>⟨_,_,V',rfl,Sl.ofOwn oo,.inr ⟨t9,none,b.n,by rw[hV'],g9'⟩,hV',fun x hx=>sle_sli (hdone x hx)⟩,fun h=>absurd hok h⟩
end
end Go.Proofs.YtkeagffmmhllcaaGreat
namespace Go.Proofs.YtkeagffmmhllcaaGreat
open Go.Abs Go.RS
set_option linter.unusedSimpArgs false
set_option linter.unusedVariables false
set_option maxRecDepth 20000
theorem zeros_nl(n:Nat):zeros [Value.slice none 0 0] n=List.replicate n nl:=by
 induction n with
 | zero=>rfl
 | succ n ih=>rw[List.replicate_succ,←ih];rfl
def wV(b:Bk)(B x:Nat):Value:=.slice (some ⟨B+x,0,none⟩) (b.len x+b.ck) (b.len x+b.ck)
def V9(b:Bk)(B j:Nat):List Value:=(List.range b.n).map fun x=>if x<j then wV b B x else nl
theorem V9_len(b:Bk)(B j:Nat):(V9 b B j).length=b.n:=by simp[V9]
theorem V9_spiny(b:Bk)(B j:Nat):spiny (V9 b B j)=true:=by
 unfold spiny V9
 rw[List.all_map,List.all_eq_true]
 intro x _
 simp only[Function.comp]
 split<;>rfl
theorem V9_at{b:Bk}{B j x:Nat}(hx:x<b.n)(hj:x<j):(V9 b B j)[x]?=some (.slice (some ⟨B+x,0,none⟩) (b.len x+b.ck) (b.len x+b.ck)):=by
 unfold V9
 rw[List.getElem?_map,List.getElem?_range hx]
 simp only[Option.map_some,if_pos hj];rfl
theorem V9_set{b:Bk}{B j:Nat}(hj:j<b.n):(V9 b B j).set j (.slice (some ⟨B+j,0,none⟩) (b.len j+b.ck) (b.len j+b.ck))=V9 b B (j+1):=by
 unfold V9
 refine range_setG hj (by rw[if_pos (by omega)];rfl) fun x hx hne=>?_
 by_cases h:x<j
 ·rw[if_pos h,if_pos (by omega)]
 ·rw[if_neg h,if_neg (by omega)]
def LosH(H:Heap)(v:Value)(q:Nat)(l:List Int):Prop:=(l=[]∧v=nl)∨(l≠[]∧v=.slice (some ⟨q,0,some 1⟩) l.length l.length∧H.get q=some (intL l))
theorem LosH.sli{H:Heap}{v:Value}{q:Nat}{l:List Int}(h:LosH H v q l):SlI H v l:=by
 rcases h with ⟨rfl,rfl⟩|⟨_,rfl,h⟩
 ·exact .inl ⟨rfl,rfl⟩
 ·exact Sl.whole h rfl
theorem LosH.isSl{H:Heap}{v:Value}{q:Nat}{l:List Int}(h:LosH H v q l):isSl v=true:=by
 rcases h with ⟨_,rfl⟩|⟨_,rfl,_⟩<;>rfl
theorem LosH.len{H:Heap}{v:Value}{q:Nat}{l:List Int}(h:LosH H v q l):∃a,v=.slice a l.length l.length∧(a=none∨∃o sp,a=some ⟨q,o,sp⟩∧q<H.length):=by
 rcases h with ⟨rfl,rfl⟩|⟨_,rfl,h⟩
 ·exact⟨none,rfl,.inl rfl⟩
 ·exact⟨_,rfl,.inr ⟨_,_,rfl,Heap.get_lt h⟩⟩
theorem LosH.own{H:Heap}{v:Value}{q base n:Nat}{l:List Int}(h:LosH H v q l)(hq:base≤q)(hn:base≤n):Own base 1 H v (if l=[] then n else q) (intL l):=by
 rcases h with ⟨rfl,rfl⟩|⟨h1,rfl,h⟩
 ·rw[if_pos rfl];exact Own.nil hn
 ·rw[if_neg h1]
  exact⟨hq,.inr ⟨l.length,List.length_pos_iff.2 h1,by rw[intL_len];omega,rfl,h⟩⟩
theorem LosH.of{H:Heap}{v:Value}{q base:Nat}{l:List Int}(h:Own base 1 H v q (intL l))(hl:l≠[]):LosH H v q l:=by
 obtain⟨_,⟨rfl,h⟩|⟨n,_,h1,rfl,h2⟩⟩:=h
 ·exact absurd (by cases l with|nil=>rfl|cons a l=>cases h) hl
 ·rw[intL_len,Nat.mul_one]at h1
  subst h1
  exact .inr ⟨hl,rfl,h2⟩
theorem LosH.move{H H':Heap}{v:Value}{q:Nat}{l:List Int}(h:LosH H v q l)(e:∀c,l≠[]→H.get q=some c→H'.get q=some c):LosH H' v q l:=by
 rcases h with h|⟨h1,h2,h3⟩
 ·exact .inl h
 ·exact .inr ⟨h1,h2,e _ h1 h3⟩
section
variable {lo:Nat}{H:Heap}
set_option maxHeartbeats 1000000 in
theorem correctP{b:Bk}{vw ve vp:Value}{wl:List Int}{el:List Bool}(hb:b.Ok)(hw:SlI H vw wl)(he:SlB H ve el)(hp:SlPt H vp b.plI)(hwl:wl.length=b.all)(hel:el.length=b.all)(hrd:Rd b wl fun i=>el.getD i false)(hlo:lo≤H.length) :
  Ev cp lo 23 [vw,ve,vp,b.val] H (fun r H'=>Ext H H'∧CorIs b wl (fun i=>el.getD i false) H' r):=by
 have h1:=hb.sh
 have h2:=hb.n
 have h3:=hb.da
 have h4:=hb.ck
 have h5:=hb.ck2
 have h6:=hb.len
 have h7:=hb.all
 have hbn:b.sh≤b.n:=by unfold Bk.n;omega
 have hsum:b.cap+b.n*b.ck=b.all:=rfl
 have hpos:0<b.n*b.ck:=Nat.mul_pos (by omega) (by omega)
 have hpl:b.plI.length=b.all:=by unfold Bk.plI;rw[List.length_map,b.pl_len]
 have hw0:=hw
 have he0:=he
 have hp0:=hp
 obtain⟨aw,cw,rfl⟩:=hw.len
 obtain⟨ae,ce,rfl⟩:=he.len
 obtain⟨ap,cq,rfl⟩:=hp.len
 rw[hwl]at hw0 ⊢
 rw[hel]at he0 ⊢
 rw[hpl]at hp0 ⊢
 clear hw he hp
 unfold Bk.val
 refine st23 ?_;unfold bd23 cf23;simp only[kB,ctlB]
 repeat' ((first|refine xSQi ?_|refine xOQi rfl ?_);(try simp only[ctlB]))
 generalize hG:H++_=G0 at *
 obtain⟨g4,hxG⟩:=box_facts hG
 clear hG
 have hlG:=hxG.1
 have l4:=Heap.get_lt g4
 refine xHQi ?_
 refine wpH_call0 (sizesP (b:=b) hb (by omega)) ?_
 rintro r H2 ⟨hx2,s,hs,rfl,gs⟩
 have g4:=hx2.get g4
 have ls:=Heap.get_lt gs
 have hx2:=hxG.trans hx2
 have hl2:=hx2.1
 clear hxG
 (try simp only[ctlB])
 repeat' ((first|refine xSQi ?_|refine xOQi rfl ?_);(try simp only[ctlB]))
 generalize hG:H2++_=G at *
 obtain⟨g9,g10,hxG⟩:=box_facts2 hG
 have hG2:H2.length+2≤G.length∧G.length≤H2.length+2:=by rw[←hG];simp
 clear hG
 rw[zeros_nl]at g9 g10
 have g9:Heap.get G H2.length=some (V9 b G.length 0):=by
  rw[g9]
  unfold V9
  rw[List.map_congr_left (g:=fun _=>nl) (fun x _=>if_neg (by omega))]
  simp[List.map_const']
 have g4:=hxG.get g4
 have gs:=hxG.get gs
 have hxG:=hx2.trans hxG
 clear hx2
 (try simp only[ctlB])
 repeat' ((first|refine xSQi ?_|refine xOQi rfl ?_);(try simp only[ctlB]))
 have hln:=lens_len b
 refine aw_for (fun j S H'=>(G.length+j≤H'.length∧H'.length≤G.length+j)∧Low H2.length G H'∧H'.get H2.length=some (V9 b G.length j)∧H'.get (H2.length+1)=some (List.replicate b.n nl)∧(∀x,x<j→H'.get (G.length+x)=some (intL (wdI b wl (fun i=>el.getD i false) 0 x)))∧∃(z:Nat→Value),S=[.slice aw b.all cw,.slice ae b.all ce,.slice ap b.all cq,z 3,.pointer (some ⟨H.length,0,none⟩),z 5,z 6,z 7,.slice (some ⟨s,0,none⟩) b.n b.n,.slice (some ⟨H2.length,0,none⟩) b.n b.n,.slice (some ⟨H2.length+1,0,none⟩) b.n b.n,z 11,z 12,z 13,z 14,z 15,z 16,z 17,z 18,z 19,z 20,z 21,z 22,z 23,z 24,.slice (some ⟨s,0,none⟩) b.n b.n,.int .i64 (b.n:Nat),.int .i64 (j:Nat),z 28,z 29,z 30,z 31,z 32,z 33,z 34,z 35,z 36,z 37,z 38,z 39,z 40,z 41,z 42,z 43,z 44,z 45,z 46,z 47,z 48,z 49,z 50,z 51]) b.n ?_ ?_ ?_ ?_
 ·exact⟨by omega,Low.ext (Ext.refl _),g9,g10,by omega,exZGc rfl⟩
 ·rintro j S H' hj ⟨-,-,-,-,-,z,rfl⟩
  exact⟨_,xEQi,by simp⟩
 ·clear g9 g10
  rintro j S H3 hj ⟨hl3,low3,g9,g10,hws,z,rfl⟩
  have g4:=(low3.2 _ (by omega) (by omega)).trans g4
  have gs:=(low3.2 _ (by omega) (by omega)).trans gs
  have hat:=lens_at b hj
  have hle:=b.len_le j
  have hV9l:=V9_len b G.length j
  have hset:=V9_set (B:=G.length) hj
  generalize b.lens=LE at *
  generalize V9 b G.length (j+1)=V1 at *
  generalize V9 b G.length j=V0 at *
  replace hset:False∨_:=.inr hset
  have hl9:=Heap.get_lt g9
  have hcast:((b.len j:Nat):Int)+((b.ck:Nat):Int)=((b.len j+b.ck:Nat):Int):=by omega
  (try simp only[ctlB])
  repeat' ((first|refine xSQi ?_|refine xOQi rfl ?_);(try simp only[ctlB]))
  have hl3e:H3.length=G.length+j:=by omega
  refine⟨by simp;omega,Low.trans low3 (Low.trans (Low.keep (keep_set (Ext.refl _) _ _) (Nat.le_refl _)) (Low.ext (Ext.app _ _))),?_,?_,fun x hx=>?_,exZGc (by first|rfl|(simp only[Int.natCast_add,Int.natCast_one];rfl)|simp only[Int.natCast_add,Int.natCast_one])⟩
  ·rw[get_app_lt (by simp;omega),get_set_self (by omega),hl3e];exact congrArg some (hset.resolve_left id)
  ·rw[get_app_lt (by simp;omega),get_set_ne (by omega)];exact g10
  ·by_cases hxj:x<j
   ·rw[get_app_lt (by simp;omega),get_set_ne (by omega)];exact hws x hxj
   ·have:x=j:=by omega
    subst this
    rw[←hl3e,get_sa_n,wdI_zero]
 ·clear g9 g10
  rintro S H3 ⟨hl3,low3,g9,g10,hws,z,rfl⟩
  generalize hB:G.length=B at *
  have hx3:∀{H':Heap},Low H2.length H3 H'→Ext H H':=fun h=>Low.toExt hxG (Low.trans low3 h) (by omega)
  (try simp only[ctlB])
  repeat' ((first|refine xSQi ?_|refine xOQi rfl ?_);(try simp only[ctlB]))
  refine aw_for (fun i S H'=>Low H2.length H3 H'∧H'.get H2.length=some (V9 b B b.n)∧(∀x,x<b.n→H'.get (B+x)=some (intL (wdI b wl (fun i=>el.getD i false) i x)))∧(∃(V:List Value) (q:Nat→Nat),H'.get (H2.length+1)=some V∧V.length=b.n∧spiny V=true∧(∀x,x<b.n→B+b.n≤q x∧LosH H' (V.getD x nl) (q x) (losI b (fun i=>el.getD i false) i x))∧(∀x y,x<b.n→y<b.n→x≠y→losI b (fun i=>el.getD i false) i x≠[]→losI b (fun i=>el.getD i false) i y≠[]→q x≠q y))∧∃(z:Nat→Value),S=[.slice aw b.all cw,.slice ae b.all ce,.slice ap b.all cq,z 3,.pointer (some ⟨H.length,0,none⟩),z 5,z 6,z 7,.slice (some ⟨s,0,none⟩) b.n b.n,.slice (some ⟨H2.length,0,none⟩) b.n b.n,.slice (some ⟨H2.length+1,0,none⟩) b.n b.n,z 11,z 12,z 13,z 14,z 15,z 16,z 17,z 18,z 19,z 20,z 21,z 22,z 23,z 24,z 25,z 26,z 27,z 28,z 29,z 30,.slice ap b.all cq,.int .i64 (b.all:Nat),.int .i64 (i:Nat),z 34,z 35,z 36,z 37,z 38,z 39,z 40,z 41,z 42,z 43,z 44,z 45,z 46,z 47,z 48,z 49,z 50,z 51]) b.all ?_ ?_ ?_ ?_
  ·refine⟨Low.ext (Ext.refl _),g9,hws,⟨_,fun _=>B+b.n,g10,by simp,?_,fun x hx=>⟨Nat.le_refl _,.inl ⟨rfl,?_⟩⟩,fun x y _ _ _ h=>absurd rfl h⟩,exZGc rfl⟩
   ·unfold spiny;rw[List.all_eq_true];intro y hy;rw[List.eq_of_mem_replicate hy];rfl
   ·simp[List.getD_eq_getElem?_getD,List.getElem?_replicate];split<;>rfl
  ·rintro i S H' hi ⟨-,-,-,-,z,rfl⟩
   exact⟨_,xEQi,by simp⟩
  ·clear g9 g10 hws
   rintro i S H4 hi ⟨low4,g9,hws,⟨V,q,g10,hVl,hVs,hlos,hdis⟩,z,rfl⟩
   have hx4:=hx3 low4
   have hl4:=low4.1
   have hlt9:=Heap.get_lt g9
   have hlt10:=Heap.get_lt g10
   obtain⟨hX,hY⟩:=b.at_in hi
   have hpt:=b.plI_at hi
   obtain⟨pb,psp,pc,ep,gp⟩:=(hp0.mono hx4).els (by omega)
   obtain⟨eb,eo,esp,ec,es,ee,ge,fe,_⟩:=(he0.mono hx4).els false (by omega)
   obtain⟨xb,xo,xsp,xc,xs,ew,gw,fw,_⟩:=(hw0.mono hx4).els 0 (by omega)
   have hp2:=ptL_two (l:=b.plI) (i:=i) (by omega)
   have hpL:=ptL_len b.plI
   rw[hpt]at hp2
   rw[hpl]at ep
   rw[hel]at ee fe
   rw[hwl]at ew fw
   cases ep
   cases ee
   cases ew
   have fei:=fe i hi
   have fwi:=fw i hi
   clear fe fw hpt
   generalize ptL b.plI=PL at *
   have hVX:=vs_at (vs:=V) (i:=(b.at i).1) (by omega)
   have h9X:=V9_at (B:=B) hX hX
   have hwX:=hws _ hX
   obtain⟨hqX,hLX⟩:=hlos _ hX
   have hwI:(wdI b wl (fun i=>el.getD i false) i (b.at i).1).length=b.len (b.at i).1+b.ck:=wdI_len
   have hV9l:=V9_len b B b.n
   have hltX:=Heap.get_lt hwX
   have hlte:=Heap.get_lt ge
   have hltw:=Heap.get_lt gw
   cases her:el.getD i false with
   | false=>
    rw[her]at fei
    have hnx:∀x,losI b (fun i=>el.getD i false) (i+1) x=losI b (fun i=>el.getD i false) i x:=fun x=>by
     rw[losI_succ,if_neg (by simp only[her];simp),List.append_nil]
    have hwn:∀x,x<b.n→x≠(b.at i).1→wdI b wl (fun i=>el.getD i false) (i+1) x=wdI b wl (fun i=>el.getD i false) i x:=fun x hx hne=>wdI_ne hx hi hne
    have hws':=wdI_set (wl:=wl) (er:=fun i=>el.getD i false) hi her
    have hw2:∀x,x<b.n→Heap.get (H4.set (B+(b.at i).1) (some (intL (wdI b wl (fun i=>el.getD i false) (i+1) (b.at i).1)))) (B+x)=some (intL (wdI b wl (fun i=>el.getD i false) (i+1) x)):=by
     intro x hx
     by_cases e:x=(b.at i).1
     ·rw[e,get_set_self (by omega)]
     ·rw[get_set_ne (by omega),hwn x hx e];exact hws x hx
    have hk:Keep (B+(b.at i).1) H4 (H4.set (B+(b.at i).1) (some (intL (wdI b wl (fun i=>el.getD i false) (i+1) (b.at i).1)))):=keep_set (Ext.refl _) _ _
    clear her hLX hVX hwn hws
    generalize (b.at i).1=X at *
    generalize (b.at i).2=Y at *
    generalize wdI b wl (fun i=>el.getD i false) i X=WI at *
    generalize hW':wdI b wl (fun i=>el.getD i false) (i+1) X=WI' at *
    generalize wl.getD i 0=wd at *
    generalize V9 b B b.n=VV at *
    clear hW'
    (try simp only[ctlB])
    repeat' ((first|refine xSQi ?_|refine xOQi rfl ?_);(try simp only[ctlB]))
    refine xCQi (fun h=>?_) (fun h=>?_)
    ·cases h
    clear h
    (try simp only[ctlB])
    repeat' ((first|refine xSQi ?_|refine xOQi rfl ?_);(try simp only[ctlB]))
    generalize hH5:H4.set (B+X) (some (intL WI'))=H5 at *
    refine⟨Low.trans low4 (Low.trans (Low.keep hk (by omega)) (Low.ext (Ext.app _ _))),?_,fun x hx=>?_,⟨V,q,?_,hVl,hVs,fun x hx=>?_,?_⟩,exZGc (by first|rfl|(simp only[Int.natCast_add,Int.natCast_one];rfl)|simp only[Int.natCast_add,Int.natCast_one])⟩
    ·exact(Ext.app _ _).get (hk.get g9 (by omega))
    ·exact(Ext.app _ _).get (hw2 x hx)
    ·exact(Ext.app _ _).get (hk.get g10 (by omega))
    ·rw[hnx]
     have:=hlos x hx
     exact⟨this.1,this.2.move fun c _ hc=>(Ext.app _ _).get (hk.get hc (by omega))⟩
    ·intro x y hx hy hne
     rw[hnx,hnx];exact hdis x y hx hy hne
   | true=>
    rw[her]at fei
    have hnx:∀x,x≠(b.at i).1→losI b (fun i=>el.getD i false) (i+1) x=losI b (fun i=>el.getD i false) i x:=fun x hx=>by
     rw[losI_succ,if_neg (fun h=>hx h.1.symm),List.append_nil]
    have hnX:losI b (fun i=>el.getD i false) (i+1) (b.at i).1=losI b (fun i=>el.getD i false) i (b.at i).1++[(((b.at i).2:Nat):Int)]:=by
     rw[losI_succ,if_pos ⟨rfl,her⟩]
    have hwn:∀x,x<b.n→wdI b wl (fun i=>el.getD i false) (i+1) x=wdI b wl (fun i=>el.getD i false) i x:=fun x hx=>wdI_er hx her
    have hlel:=losI_le (b:=b) (er:=fun i=>el.getD i false) (i:=i) (x:=(b.at i).1)
    obtain⟨al,eal,hal⟩:=hLX.len
    have hall:blockOf (V.getD (b.at i).1 nl)=none∨∃q',blockOf (V.getD (b.at i).1 nl)=some q'∧q'<H4.length:=by
     rw[eal]
     rcases hal with rfl|⟨o,sp,rfl,h⟩
     ·exact .inl rfl
     ·exact .inr ⟨_,rfl,h⟩
    rw[eal]at hVX hLX hall
    clear her eal hal h9X hwX hwI
    generalize hXX:(b.at i).1=X at *
    generalize (b.at i).2=Y at *
    generalize V9 b B b.n=VV at *
    (try simp only[ctlB])
    repeat' ((first|refine xSQi ?_|refine xOQi rfl ?_);(try simp only[ctlB]))
    refine xCQi (fun h=>?_) (fun h=>?_)
    case refine_2=>cases h
    clear h fei fwi
    (try simp only[ctlB])
    repeat' ((first|refine xSQi ?_|refine xOQi rfl ?_);(try simp only[ctlB]))
    generalize hG:H4++_=H5 at *
    obtain⟨gp4,gy4,hx5⟩:=box_facts2 hG
    have hl5:H4.length+2≤H5.length∧H5.length≤H4.length+2:=by rw[←hG];simp
    clear hG
    have hL5:=hLX.move fun c _ hc=>hx5.get hc
    have hown:=hL5.own (base:=B+b.n) (n:=H5.length) hqX (by omega)
    have hqa:B+b.n≤(if losI b (fun i=>el.getD i false) i X=[] then H5.length else q X):=by split<;>omega
    have hqd:∀x,x<b.n→x≠X→losI b (fun i=>el.getD i false) i x≠[]→q x≠(if losI b (fun i=>el.getD i false) i X=[] then H5.length else q X):=by
     intro x hx hne hl
     split
     ·rcases(hlos x hx).2 with h|⟨_,_,h⟩
      ·exact absurd h.1 hl
      ·have:=Heap.get_lt h;omega
     ·rename_i h;exact hdis x X hx hX hne hl h
    generalize (if losI b (fun i=>el.getD i false) i X=[] then H5.length else q X)=qa at *
    refine xHQi ?_
    refine wpH_app (b:=qa) (cells:=intL (losI b (fun i=>el.getD i false) i X)) (c:=intL [((Y:Nat):Int)]) (hown.lower (by omega)) (by omega) (by omega) (by omega) (by rw[intL_len];omega) gy4 (by simp) rfl rfl ?_
    rw[←intL_app,←hnX]
    intro v' H6 o6 hk6 hl6
    have hl6:H5.length+1≤H6.length∧H6.length≤H5.length+1:=by omega
    have hL6:=LosH.of o6 (by rw[hnX];simp)
    have hnl:(losI b (fun i=>el.getD i false) (i+1) X).length=(losI b (fun i=>el.getD i false) i X).length+1:=by rw[hnX];simp
    have hv':v'=.slice (some ⟨H5.length,0,some 1⟩) (losI b (fun i=>el.getD i false) (i+1) X).length (losI b (fun i=>el.getD i false) (i+1) X).length:=by
     rcases hL6 with ⟨h,_⟩|⟨_,h,_⟩
     ·rw[hnX]at h;simp at h
     ·exact h
    subst hv'
    have g9:=hk6.get (hx5.get g9) (by omega)
    have g10:=hk6.get (hx5.get g10) (by omega)
    have hws:∀x,x<b.n→Heap.get H6 (B+x)=some (intL (wdI b wl (fun i=>el.getD i false) (i+1) x)):=fun x hx=>by
     rw[hwn x hx];exact hk6.get (hx5.get (hws x hx)) (by omega)
    have hlos6:∀x,x<b.n→x≠X→LosH H6 (V.getD x nl) (q x) (losI b (fun i=>el.getD i false) i x):=fun x hx hne=>(hlos x hx).2.move fun c h1 hc=>hk6.get (hx5.get hc) (hqd x hx hne h1)
    have hql:∀x,x<b.n→losI b (fun i=>el.getD i false) i x≠[]→q x<H4.length:=fun x hx hl=>by
     rcases(hlos x hx).2 with h|⟨_,_,h⟩
     ·exact absurd h.1 hl
     ·exact Heap.get_lt h
    have hlow6:Low H2.length H3 H6:=Low.trans low4 (Low.trans (Low.ext hx5) (Low.keep hk6 (by omega)))
    have hqs:∀x,x<b.n→B+b.n≤q x:=fun x hx=>(hlos x hx).1
    clear hwn hlos hLX hL5 hown hqd o6 gp4 gy4 ge gw gp hp2 hpL hnX hnl
    generalize hLn:losI b (fun i=>el.getD i false) (i+1) X=Ln at *
    (try simp only[ctlB])
    repeat' ((first|refine xSQi ?_|refine xOQi rfl ?_);(try simp only[ctlB]))
    refine aw_dist (xEQi) (xEQi) ?_ ?_
    ·rcases hall with h|⟨q',h,h2⟩
     ·exact .inl h
     ·refine .inr ?_
      rw[h]
      simp only[blockOf]
      intro h3
      cases h3
      omega
    (try simp only[ctlB])
    repeat' ((first|refine xSQi ?_|refine xOQi rfl ?_);(try simp only[ctlB]))
    refine⟨Low.trans hlow6 (Low.keep (keep_set (Ext.refl _) _ _) (by omega)),?_,fun x hx=>?_,⟨V.set X (.slice (some ⟨H5.length,0,some 1⟩) Ln.length Ln.length),fun x=>if x=X then H5.length else q x,?_,by simp[hVl],?_,fun x hx=>?_,?_⟩,exZGc (by first|rfl|(simp only[Int.natCast_add,Int.natCast_one];rfl)|simp only[Int.natCast_add,Int.natCast_one])⟩
    ·rw[get_set_ne (by omega)];exact g9
    ·rw[get_set_ne (by omega)];exact hws x hx
    ·rw[get_set_self (by omega)]
    ·unfold spiny at *
     rw[List.all_eq_true]at *
     intro y hy
     rcases List.mem_or_eq_of_mem_set hy with h|h
     ·exact hVs y h
     ·rw[h];rfl
    ·have hge:(V.set X (Value.slice (some ⟨H5.length,0,some 1⟩) Ln.length Ln.length)).getD x nl=if x=X then .slice (some ⟨H5.length,0,some 1⟩) Ln.length Ln.length else V.getD x nl:=by
      rw[List.getD_eq_getElem?_getD,List.getElem?_set]
      by_cases e:x=X
      ·rw[if_pos e.symm,if_pos (by omega),if_pos e];rfl
      ·rw[if_neg (Ne.symm e),if_neg e,←List.getD_eq_getElem?_getD]
     rw[hge]
     by_cases e:x=X
     ·simp only[if_pos e]
      rw[e,hLn]
      exact⟨by omega,hL6.move fun c _ hc=>by rw[get_set_ne (by omega)];exact hc⟩
     ·simp only[if_neg e]
      rw[hnx x e]
      refine⟨hqs x hx,(hlos6 x hx e).move fun c _ hc=>?_⟩
      have:=hqs x hx
      rw[get_set_ne (by omega)];exact hc
    ·intro x y hx hy hne h1 h2
     by_cases e1:x=X
     ·have e2:y≠X:=fun e=>hne (by omega)
      rw[hnx y e2]at h2
      have:=hql y hy h2
      simp only[if_pos e1,if_neg e2];omega
     ·rw[hnx x e1]at h1
      have:=hql x hx h1
      by_cases e2:y=X
      ·simp only[if_neg e1,if_pos e2];omega
      ·rw[hnx y e2]at h2
       simp only[if_neg e1,if_neg e2]
       exact hdis x y hx hy hne h1 h2
  ·clear g9 g10 hws
   rintro S H4 ⟨low4,g9,hws,⟨V,q,g10,hVl,hVs,hlos,hdis⟩,z,rfl⟩
   have hx4:=hx3 low4
   have g4':=(low4.2 _ (by omega) (by omega)).trans ((low3.2 _ (by omega) (by omega)).trans g4)
   have gs':=(low4.2 _ (by omega) (by omega)).trans ((low3.2 _ (by omega) (by omega)).trans gs)
   refine correctB (b:=b) (wl:=wl) (er:=fun i=>el.getD i false) (exZGc rfl) hb hrd (t9:=H2.length) (t10:=H2.length+1) (by omega) (by omega) (by omega) (by omega) g4' gs' g9 g10 (V9_len _ _ _) hVl (V9_spiny _ _ _) (fun x hx=>⟨?_,(hlos x hx).2.sli⟩) ?_
   ·have hat:=V9_at (B:=B) (j:=b.n) hx hx
    have:(V9 b B b.n).getD x nl=.slice (some ⟨B+x,0,none⟩) (b.len x+b.ck) (b.len x+b.ck):=by
     rw[List.getD_eq_getElem?_getD,hat];rfl
    rw[this]
    exact Sl.whole (hws x hx) wdI_len
   ·intro v H5 hk hc
    exact⟨hk.ext hx4 (by omega),hc⟩
end
end Go.Proofs.YtkeagffmmhllcaaGreat
