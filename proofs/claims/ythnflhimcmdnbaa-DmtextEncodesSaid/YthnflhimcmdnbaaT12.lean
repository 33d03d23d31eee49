/- Dmtext: what the search computes: options, their costs, rounds; all in plain terms. Dmtext: the values that may follow in C40 and Text: moves. Dmtext: lists that grow in nested loops; the options of C40 and Text. -/
import Derived.Test.YthnflhimcmdnbaaT11
set_option linter.unusedVariables false
set_option linter.unusedSimpArgs false
set_option linter.unusedSectionVars false
namespace Go.Proofs.Ythnflhimcmdnbaa
open Go.Abs
set_option linter.unusedSimpArgs false
set_option linter.unusedVariables false
set_option maxRecDepth 20000
structure Mv where
 v:Nat
 a:Nat
 s:Nat
 u:Bool
def mvC(m:Mv):List Value:=[encN m.v,encN m.a,encN m.s,.bool m.u]
theorem mvC_len(o:Mv):(mvC o).length=4:=rfl
theorem mvC_one(o:Mv):oneCells (mvC o)=true:=rfl
abbrev by'(p:List UInt8)(i:Nat):Nat:=(p.getD i 0).toNat
theorem by_lt(p:List UInt8)(i:Nat):by' p i<256:=(p.getD i 0).toNat_lt
def mv3(a:Nat)(u:Bool)(k:Nat):List Mv:=(List.range k).map fun i=>⟨i,a,i+1,u⟩
theorem mv3_succ(a:Nat)(u:Bool)(k:Nat):mv3 a u (k+1)=mv3 a u k++[⟨k,a,k+1,u⟩]:=by
 unfold mv3;rw[List.range_succ,List.map_append];rfl
def mvA(a s:Nat)(u:Bool):List Mv:=if s=0 then mv3 a u 3 else[]
def mvB(p:List UInt8)(a s:Nat)(u lower:Bool):List Mv:=if a<p.length∧(placeS lower (by' p a%128)).1=s∧u=decide (128≤by' p a) then[⟨(placeS lower (by' p a%128)).2,a+1,0,false⟩] else[]
def mvD(a s:Nat)(u:Bool):List Mv:=if s=2∧u=false then[⟨30,a,0,true⟩] else[]
def movS(p:List UInt8)(a s:Nat)(u lower:Bool):List Mv:=mvA a s u++mvB p a s u lower++mvD a s u
theorem movS_len(p:List UInt8)(a s:Nat)(u lower:Bool):(movS p a s u lower).length≤5:=by
 unfold movS mvA mvB mvD mv3
 split<;>split<;>split<;>simp
theorem placeS_le(b:Bool)(n:Nat)(h:n<128):(placeS b n).1≤3∧(placeS b n).2≤39:=by
 unfold placeS
 repeat' split
 all_goals (refine⟨?_,?_⟩<;>simp only[]<;>omega)
def Mv.ok(p:List UInt8)(a:Nat)(m:Mv):Prop:=m.v≤39∧a≤m.a∧m.a≤p.length∧m.s≤3
theorem movS_ok{p:List UInt8}{a s:Nat}{u lower:Bool}(ha:a≤p.length):∀m ∈ movS p a s u lower,m.ok p a:=by
 intro m hm
 unfold movS mvA mvB mvD mv3 at hm
 rw[List.mem_append,List.mem_append]at hm
 rcases hm with (hm|hm)|hm
 ·split at hm
  ·obtain⟨i,hi,rfl⟩:=List.mem_map.1 hm
   have:=List.mem_range.1 hi
   exact⟨by simp only;omega,Nat.le_refl _,ha,by simp only;omega⟩
  ·cases hm
 ·split at hm
  ·rename_i h
   obtain rfl:=List.mem_singleton.1 hm
   have:=placeS_le lower (by' p a%128) (by omega)
   exact⟨this.2,by simp only;omega,by simp only;omega,Nat.zero_le _⟩
  ·cases hm
 ·split at hm
  ·obtain rfl:=List.mem_singleton.1 hm
   exact⟨by simp only;omega,Nat.le_refl _,ha,Nat.zero_le _⟩
  ·cases hm
def latO(at':Nat):Opt:=⟨254,0,0,1,0,at',0⟩
def modeS(first:Nat)(w:Mv):Nat:=if w.u then first+w.s+4 else first+w.s
def tri3(first:Nat)(u v:Mv)(L:List Mv):List Opt:=L.map fun w=>triO u.v v.v w.v w.a (modeS first w)
def tri2(p:List UInt8)(first:Nat)(lower:Bool)(u:Mv)(L:List Mv):List Opt:=L.flatMap fun v=>tri3 first u v (movS p v.a v.s v.u lower)
def tri1(p:List UInt8)(first:Nat)(lower:Bool)(L:List Mv):List Opt:=L.flatMap fun u=>tri2 p first lower u (movS p u.a u.s u.u lower)
def tripS(p:List UInt8)(at' st first:Nat)(lower:Bool):List Opt:=latO at'::tri1 p first lower (movS p at' (st%4) (decide (4≤st)) lower)
def x12O(p:List UInt8)(at':Nat):List Opt:=
 latO at'::if at'+3≤p.length∧x12S (by' p at')≠0∧x12S (by' p (at'+1))≠0∧x12S (by' p (at'+2))≠0 then[triO (x12S (by' p at')-1) (x12S (by' p (at'+1))-1) (x12S (by' p (at'+2))-1) (at'+3) 17] else[]
def ediR(p:List UInt8)(at':Nat):Nat→Nat→Nat→List Opt
 | 0,n,g=>[bitO g 4 (at'+n) 18]
 | k+1,n,g=>bitO (64*g+31) (n+1) (at'+n) 0::if at'+n<p.length∧32≤by' p (at'+n)∧by' p (at'+n)≤94 then ediR p at' k (n+1) (64*g+by' p (at'+n)%64) else[]
def ediS(p:List UInt8)(at':Nat):List Opt:=ediR p at' 4 0 0
def binO(at' n:Nat):Opt:=if n<250 then⟨231,n,0,2,n,at'+n,0⟩ else⟨231,249+n/250,n%250,3,n,at'+n,0⟩
def zeroO:Opt:=⟨0,0,0,0,0,0,0⟩
def binB(cs:List Nat)(at':Nat):Nat→Opt
 | 0=>zeroO
 | n+1=>if n=0 then binO at' 1 else if totS cs (binO at' (n+1))<totS cs (binB cs at' n) then binO at' (n+1) else binB cs at' n
def binS(p:List UInt8)(cs:List Nat)(at':Nat):Opt:=binB cs at' (min (p.length-at') 1749)
def lats(at':Nat):List Opt:=[⟨230,0,0,1,0,at',1⟩,⟨239,0,0,1,0,at',9⟩,⟨238,0,0,1,0,at',17⟩,⟨240,0,0,1,0,at',18⟩]
def byteO(c at':Nat):Opt:=if c<128 then⟨c+1,0,0,1,0,at'+1,0⟩ else⟨235,c-127,0,2,0,at'+1,0⟩
def pairO(p:List UInt8)(at':Nat):List Opt:=if at'+2≤p.length∧digB (by' p at')=true∧digB (by' p (at'+1))=true then[⟨130+(10*(by' p at'-48)+by' p (at'+1)-48),0,0,1,0,at'+2,0⟩] else[]
def ascS(p:List UInt8)(cs:List Nat)(at':Nat):List Opt:=lats at'++if at'<p.length then[byteO (by' p at') at']++pairO p at'++[binS p cs at'] else[]
def optS(p:List UInt8)(cs:List Nat)(at' st:Nat):List Opt:=
 if st=0 then ascS p cs at' else if st<9 then tripS p at' (st-1) 1 false else if st<17 then tripS p at' (st-9) 9 true else if st=17 then x12O p at' else ediS p at'
structure Opt.ok (n at':Nat)(o:Opt):Prop where
 sz:1≤o.sz∧o.sz≤3
 run:o.run≤1749
 nx:at'≤o.nx∧o.nx≤n
 md:o.md<19
 h:o.h0≤255∧o.h1≤255∧o.h2≤255
theorem latO_ok{n at':Nat}(h:at'≤n):(latO at').ok n at':=⟨⟨Nat.le_refl 1,by simp[latO]⟩,by simp[latO],⟨Nat.le_refl _,h⟩,by simp[latO],by simp[latO]⟩
theorem triO_ok{n at' u v w a m:Nat}(hu:u≤39)(hv:v≤39)(hw:w≤39)(h:at'≤a∧a≤n)(hm:m<19):(triO u v w a m).ok n at':=by
 refine⟨⟨by simp[triO],by simp[triO]⟩,by simp[triO],h,hm,?_⟩
 unfold triO
 refine⟨?_,?_,Nat.zero_le _⟩<;>simp only<;>omega
theorem modeS_le{first:Nat}{w:Mv}(h:w.s≤3):modeS first w<first+8:=by
 unfold modeS;split<;>omega
theorem tripS_ok{p:List UInt8}{at' st first:Nat}{lower:Bool}(ha:at'≤p.length)(hf:first≤9):∀o ∈ tripS p at' st first lower,o.ok p.length at':=by
 intro o ho
 unfold tripS at ho
 rcases List.mem_cons.1 ho with rfl|ho
 ·exact latO_ok ha
 ·unfold tri1 tri2 tri3 at ho
  obtain⟨u,hu,ho⟩:=List.mem_flatMap.1 ho
  obtain⟨v,hv,ho⟩:=List.mem_flatMap.1 ho
  obtain⟨w,hw,rfl⟩:=List.mem_map.1 ho
  obtain⟨hu1,hu2,hu3,hu4⟩:=movS_ok ha u hu
  obtain⟨hv1,hv2,hv3,hv4⟩:=movS_ok hu3 v hv
  obtain⟨hw1,hw2,hw3,hw4⟩:=movS_ok hv3 w hw
  have:=modeS_le (first:=first) hw4
  exact triO_ok hu1 hv1 hw1 ⟨by omega,hw3⟩ (by omega)
theorem x12S_le(n:Nat):x12S n≤40:=by
 unfold x12S;repeat' split
 all_goals omega
theorem x12O_ok{p:List UInt8}{at':Nat}(ha:at'≤p.length):∀o ∈ x12O p at',o.ok p.length at':=by
 intro o ho
 unfold x12O at ho
 rcases List.mem_cons.1 ho with rfl|ho
 ·exact latO_ok ha
 ·split at ho
  ·rename_i h
   obtain rfl:=List.mem_singleton.1 ho
   have h1:=x12S_le (by' p at')
   have h2:=x12S_le (by' p (at'+1))
   have h3:=x12S_le (by' p (at'+2))
   exact triO_ok (by omega) (by omega) (by omega) ⟨by omega,h.1⟩ (by omega)
  ·cases ho
theorem bitO_ok{N at' g n a m:Nat}(hn:1≤n∧n≤4)(hg:g<2^(6*n))(h:at'≤a∧a≤N)(hm:m<19):(bitO g n a m).ok N at':=by
 have hG:g*2^(6*(4-n))<16777216:=by
  have:(16777216:Nat)=2^(6*n)*2^(6*(4-n)):=by rw[←Nat.pow_add,show 6*n+6*(4-n)=24 by omega]
  rw[this]
  exact Nat.mul_lt_mul_of_pos_right hg (Nat.pow_pos (by decide))
 unfold bitO
 generalize g*2^(6*(4-n))=G at hG
 refine⟨⟨?_,?_⟩,Nat.zero_le _,h,hm,⟨?_,?_,?_⟩⟩<;>simp only<;>omega
theorem pow6(n:Nat):2^(6*(n+1))=64*2^(6*n):=by rw[Nat.mul_succ,Nat.pow_add];omega
theorem ediR_ok{p:List UInt8}{at':Nat}:∀(k n g:Nat),n+k=4→g<2^(6*n)→at'+n≤p.length→∀o ∈ ediR p at' k n g,o.ok p.length at'
 | 0,n,g,hn,hg,ha,o,ho=>by
  simp only[ediR]at ho
  obtain rfl:=List.mem_singleton.1 ho
  have:n=4:=by omega
  subst this
  exact bitO_ok ⟨by omega,by omega⟩ hg ⟨by omega,ha⟩ (by omega)
 | k+1,n,g,hn,hg,ha,o,ho=>by
  simp only[ediR]at ho
  have h6:=pow6 n
  rcases List.mem_cons.1 ho with rfl|ho
  ·exact bitO_ok ⟨by omega,by omega⟩ (by rw[h6];omega) ⟨by omega,ha⟩ (by omega)
  ·split at ho
   ·rename_i h
    exact ediR_ok k (n+1) _ (by omega) (by rw[h6];omega) (by omega) o ho
   ·cases ho
theorem ediS_ok{p:List UInt8}{at':Nat}(ha:at'≤p.length):∀o ∈ ediS p at',o.ok p.length at':=ediR_ok 4 0 0 rfl (by decide) ha
theorem binO_ok{N at' n:Nat}(h1:1≤n)(h2:n≤1749)(h:at'+n≤N):(binO at' n).ok N at':=by
 unfold binO
 split<;>refine⟨⟨?_,?_⟩,?_,⟨?_,?_⟩,?_,⟨?_,?_,?_⟩⟩<;>simp only<;>omega
theorem binB_ex{cs:List Nat}{at':Nat}:∀n,1≤n→∃k,1≤k∧k≤n∧binB cs at' n=binO at' k
 | 1,_=>⟨1,Nat.le_refl _,Nat.le_refl _,by simp[binB]⟩
 | n+2,_=>by
  obtain⟨k,h1,h2,h3⟩:=binB_ex (cs:=cs) (at':=at') (n+1) (by omega)
  by_cases h:totS cs (binO at' (n+2))<totS cs (binB cs at' (n+1))
  ·exact⟨n+2,by omega,Nat.le_refl _,by rw[binB,if_neg (by omega),if_pos h]⟩
  ·exact⟨k,h1,by omega,by rw[binB,if_neg (by omega),if_neg h];exact h3⟩
theorem binB_ok{cs:List Nat}{N at' n:Nat}(h1:1≤n)(h2:n≤1749)(h:at'+n≤N):(binB cs at' n).ok N at':=by
 obtain⟨k,h3,h4,e⟩:=binB_ex (cs:=cs) (at':=at') n h1
 rw[e]
 exact binO_ok h3 (by omega) (by omega)
theorem lats_ok{N at':Nat}(h:at'≤N):∀o ∈ lats at',o.ok N at':=by
 intro o ho
 simp only[lats,List.mem_cons,List.not_mem_nil,or_false]at ho
 rcases ho with rfl|rfl|rfl|rfl<;>exact⟨⟨by simp,by simp⟩,by simp,⟨Nat.le_refl _,h⟩,by simp,by simp⟩
theorem byteO_ok{N c at':Nat}(hc:c<256)(h:at'<N):(byteO c at').ok N at':=by
 unfold byteO
 split<;>refine⟨⟨?_,?_⟩,?_,⟨?_,?_⟩,?_,⟨?_,?_,?_⟩⟩<;>simp only<;>omega
theorem digB_iff{n:Nat}:digB n=true↔48≤n∧n≤57:=by simp[digB]
theorem pairO_ok{p:List UInt8}{at':Nat}:∀o ∈ pairO p at',o.ok p.length at':=by
 intro o ho
 unfold pairO at ho
 split at ho
 ·rename_i h
  obtain rfl:=List.mem_singleton.1 ho
  obtain⟨h1,h2,h3⟩:=h
  have h2:=digB_iff.1 h2
  have h3:=digB_iff.1 h3
  refine⟨⟨?_,?_⟩,?_,⟨?_,?_⟩,?_,⟨?_,?_,?_⟩⟩<;>simp only<;>omega
 ·cases ho
theorem ascS_ok{p:List UInt8}{cs:List Nat}{at':Nat}(ha:at'≤p.length):∀o ∈ ascS p cs at',o.ok p.length at':=by
 intro o ho
 unfold ascS at ho
 rcases List.mem_append.1 ho with ho|ho
 ·exact lats_ok ha o ho
 ·split at ho
  ·rename_i h
   simp only[List.mem_append,List.mem_singleton]at ho
   rcases ho with (rfl|ho)|rfl
   ·exact byteO_ok (by_lt p at') h
   ·exact pairO_ok o ho
   ·exact binB_ok (by omega) (by omega) (by omega)
  ·cases ho
theorem optS_ok{p:List UInt8}{cs:List Nat}{at' st:Nat}(ha:at'≤p.length):∀o ∈ optS p cs at' st,o.ok p.length at':=by
 intro o ho
 unfold optS at ho
 split at ho
 ·exact ascS_ok ha o ho
 ·split at ho
  ·exact tripS_ok ha (by omega) o ho
  ·split at ho
   ·exact tripS_ok ha (by omega) o ho
   ·split at ho
    ·exact x12O_ok ha o ho
    ·exact ediS_ok ha o ho
theorem flatMap_take{α β:Type}(f:α→List β):∀(l:List α) (k:Nat) (h:k<l.length),(l.take (k+1)).flatMap f=(l.take k).flatMap f++f l[k]
 | x::l,0,h=>by simp
 | x::l,k+1,h=>by
  simp only[List.take_succ_cons,List.flatMap_cons,List.getElem_cons_succ,List.append_assoc]
  rw[flatMap_take f l k (by simpa using h)]
theorem map_take{α β:Type}(f:α→β)(l:List α)(k:Nat)(h:k<l.length):(l.take (k+1)).map f=(l.take k).map f++[f l[k]]:=by
 rw[List.take_succ_eq_append_getElem h,List.map_append];rfl
end Go.Proofs.Ythnflhimcmdnbaa
namespace Go.Proofs.Ythnflhimcmdnbaa
open Go.Abs
set_option linter.unusedSimpArgs false
set_option linter.unusedVariables false
set_option maxRecDepth 20000
theorem sl_at{H:Heap}{v:Value}{l:List UInt8}{k:Nat}(h:SlU H v l)(hk:k<l.length):∃b o xs,lsem (.iAddr 1) [v,.int .i64 (k:Nat)] H=some (.pointer (some ⟨b,o,none⟩))∧H.get b=some xs∧xs[o]?=some (encU (l.getD k 0)):=by
 obtain⟨b,o,sp,cap,xs,rfl,h2,h3,h4⟩:=h.els 0 (by omega)
 refine⟨b,o+k,xs,?_,h2,h3 k hk⟩
 rw[ls_iAddr (by omega) (by omega)];simp
theorem and_u8{a b:Nat}(ha:a<256)(hb:b<256):IntKind.u8.wrap ((BitVec.ofInt IntKind.u8.bits (a:Int) &&& BitVec.ofInt IntKind.u8.bits (b:Int)).toNat:Int)=((a &&& b:Nat):Int):=by
 have e:(BitVec.ofInt IntKind.u8.bits (a:Int) &&& BitVec.ofInt IntKind.u8.bits (b:Int)).toNat=a &&& b:=by
  show(BitVec.ofInt 8 (a:Int) &&& BitVec.ofInt 8 (b:Int)).toNat=a &&& b
  rw[show BitVec.ofInt 8 (a:Int)=BitVec.ofNat 8 a from BitVec.ofInt_natCast 8 a,show BitVec.ofInt 8 (b:Int)=BitVec.ofNat 8 b from BitVec.ofInt_natCast 8 b,BitVec.toNat_and,BitVec.toNat_ofNat,BitVec.toNat_ofNat,Nat.mod_eq_of_lt (by omega),Nat.mod_eq_of_lt (by omega)]
 rw[e]
 have:a &&& b≤a:=Nat.and_le_left
 exact wrap_u8 (by omega) (by omega)
section
variable {lo:Nat}{H:Heap}{sb cb:Nat}{v:Value}{p:List UInt8}{cs:List Nat}
theorem exZDe{S:List Value}{F:(Nat→Value)→List Value}(h:S=F (fun k=>S.getD k undef)):∃z,S=F z:=⟨_,h⟩
theorem movP{a s:Nat}{u lower:Bool}(hs:SrH H sb cb v p cs)(ha:a≤p.length)(hs3:s≤3)(hlo:lo≤H.length):Ev cp lo 58 [ptr sb,.agg #[encN a,encN s,.bool u],.bool lower] H (fun r H'=>Ext H H'∧∃b,H.length≤b∧OwnG lo 4 H' r b (cat mvC (movS p a s u lower))):=by
 have hi:=hs.hi
 refine st58 ?_;unfold bd58 cf58;simp only[kB,ctlB]
 repeat' ((first|refine xSDc ?_|refine xODc rfl ?_);(try simp only[ctlB]))
 have hxb:Ext H (H++[some [encN a,encN s,.bool u]]):=Ext.app _ _
 have hgb:(H++[some [encN a,encN s,.bool u]]).get H.length=some [encN a,encN s,.bool u]:=get_app0
 generalize H++[some [encN a,encN s,.bool u]]=Hb at hxb hgb
 have hlb:=hxb.1
 refine aw_midX (fun S' H'=>Ext Hb H'∧∃w b,Hb.length≤b∧OwnG lo 4 H' w b (cat mvC (mvA a s u))∧∃(z:Nat→Value),S'=[ptr sb,z 1,.bool lower,ptr H.length,z 4,w,z 6,z 7,z 8,z 9,z 10,z 11,z 12,z 13,z 14,z 15,z 16,z 17,z 18,z 19,z 20]) ?_ ?_
 ·by_cases h0:s=0
  ·have hA:mvA a s u=mv3 a u 3:=by unfold mvA;rw[if_pos h0]
   rw[hA]
   clear hA
   have hd:decide (((s:Nat):Int)=0)=true:=decide_eq_true (by omega)
   replace h0:s≤0:=by omega
   refine xCDc (fun h=>?_) (fun h=>?_)
   ·clear h hd
    (try simp only[ctlB])
    repeat' ((first|refine xSDc ?_|refine xODc rfl ?_);(try simp only[ctlB]))
    refine aw_for (fun k S H'=>Ext Hb H'∧∃w b,Hb.length≤b∧OwnG lo 4 H' w b (cat mvC (mv3 a u k))∧∃(z:Nat→Value),S=[ptr sb,z 1,.bool lower,ptr H.length,z 4,w,z 6,z 7,z 8,z 9,.int .i64 (k:Nat),z 11,z 12,z 13,z 14,z 15,z 16,z 17,z 18,z 19,z 20]) 3 ⟨Ext.refl _,_,Hb.length,Nat.le_refl _,OwnG.nil (by omega),exZDe rfl⟩ ?_ ?_ ?_
    ·rintro k S H' hk ⟨hx,w,b,hb,ho,z,rfl⟩
     exact⟨decide ((k:Int)<3),by simp(disch:=first|omega|(simp only[lenB];omega))only[evB,xBDc,Nat.reduceAdd,Nat.reduceBEq, *],by simp;omega⟩
    ·rintro k S H' hk ⟨hx,w,b,hb,ho,z,rfl⟩
     have hg:=hx.get hgb
     have hl1:=hx.1
     (try simp only[ctlB])
     repeat' ((first|refine xSDc ?_|refine xODc rfl ?_);(try simp only[ctlB]))
     refine xHDc ?_
     have hxa:Ext H' (H'++[some (mvC ⟨k,a,k+1,u⟩)]):=Ext.app _ _
     refine appG (enc:=mvC) (r:=⟨k,a,k+1,u⟩) (by omega) (by omega) mvC_len mvC_one (ho.mono hxa) (hx.trans hxa) hb (by omega) (by simp[mv3];omega) get_app0 ?_
     intro v' b' H2 ho2 hx2 hb2 hl2
     rw[←mv3_succ]at ho2
     (try simp only[ctlB])
     repeat' ((first|refine xSDc ?_|refine xODc rfl ?_);(try simp only[ctlB]))
     exact⟨hx2,_,_,hb2,ho2,exZDe (by first|rfl|(simp only[Int.natCast_add,Int.natCast_one];rfl)|simp only[Int.natCast_add,Int.natCast_one])⟩
    ·rintro S H' ⟨hx,w,b,hb,ho,z,rfl⟩
     (try simp only[ctlB])
     exact⟨hx,_,_,hb,ho,exZDe rfl⟩
   ·exfalso;simp at h
  ·have hA:mvA a s u=[]:=by unfold mvA;rw[if_neg h0]
   rw[hA]
   clear hA
   have hd:decide (((s:Nat):Int)=0)=false:=decide_eq_false (by omega)
   refine xCDc (fun h=>?_) (fun h=>?_)
   ·exfalso;simp at h
   ·(try simp only[ctlB])
    exact⟨Ext.refl _,_,Hb.length,Nat.le_refl _,OwnG.nil (by omega),exZDe rfl⟩
 ·rintro S' H1 ⟨hx1,w,b,hb,ho,z,rfl⟩
  have hg1:=hx1.get hgb
  have hs1:=hs.ext (hxb.trans hx1)
  have hgs:=hs1.g
  have hl1:=hx1.1
  obtain⟨ad,c,ev⟩:=hs.pl.len
  rw[ev]at hgs
  (try simp only[ctlB])
  refine aw_midX (fun S' H'=>Ext Hb H'∧∃w b,Hb.length≤b∧OwnG lo 4 H' w b (cat mvC (mvA a s u++mvB p a s u lower))∧∃(z:Nat→Value),S'=[ptr sb,z 1,.bool lower,ptr H.length,z 4,w,z 6,z 7,z 8,z 9,z 10,z 11,z 12,z 13,z 14,z 15,z 16,z 17,z 18,z 19,z 20]) ?_ ?_
  ·by_cases hap:a<p.length
   ·obtain⟨bb,oo,xs,hia,hgx,hxx⟩:=sl_at hs1.pl hap
    rw[ev]at hia
    clear ev
    have hd:decide (((a:Nat):Int)<(p.length:Nat))=true:=decide_eq_true (by omega)
    refine xCDc (fun h=>?_) (fun h=>?_)
    ·clear h hd
     have hby:=(p.getD a 0).toNat_lt
     have hand:=and_u8 (a:=(p.getD a 0).toNat) (b:=127) hby (by omega)
     rw[show(p.getD a 0).toNat &&& 127=(p.getD a 0).toNat%128 from Nat.and_two_pow_sub_one_eq_mod _ 7]at hand
     have hB:mvB p a s u lower=if (placeS lower (by' p a%128)).1=s∧u=decide (128≤by' p a) then[⟨(placeS lower (by' p a%128)).2,a+1,0,false⟩] else[]:=by
      unfold mvB
      simp only[hap,true_and]
     rw[hB]
     clear hB
     unfold by'
     generalize p.getD a 0=d at hxx hby hand
     replace hxx:xs[oo]?=some (.int .u8 (d.toNat:Nat)):=hxx
     generalize d.toNat=q at hxx hby hand
     simp only[Int.cast_ofNat_Int]at hand
     (try simp only[ctlB])
     repeat' ((first|refine xSDc ?_|refine xODc rfl ?_);(try simp only[ctlB]))
     refine xHDc ?_
     refine wpH_call0 (placeP (lo:=lo) (b:=lower) (k:=q%128) (by omega) (by omega)) ?_
     rintro r H2 ⟨rfl,hx2⟩
     have hg2:=hx2.get hg1
     have hle:=placeS_le lower (q%128) (by omega)
     generalize (placeS lower (q%128)).1=ss at hle
     generalize (placeS lower (q%128)).2=vv at hle
     have hl2:=hx2.1
     have e8:decide ((q:Int)≥128)=decide (128≤q):=by
      by_cases h:128≤q
      ·rw[decide_eq_true h,decide_eq_true (by omega)]
      ·rw[decide_eq_false h,decide_eq_false (by omega)]
     generalize decide (128≤q)=big at e8
     (try simp only[ctlB])
     repeat' ((first|refine xSDc ?_|refine xODc rfl ?_);(try simp only[ctlB]))
     by_cases hc:ss=s∧u=big
     ·obtain⟨rfl,rfl⟩:=hc
      simp only[and_self,if_true]
      refine xCDc (fun h=>?_) (fun h=>?_)
      ·clear h
       (try simp only[ctlB])
       repeat' ((first|refine xSDc ?_|refine xODc rfl ?_);(try simp only[ctlB]))
       refine xHDc ?_
       have hxa:Ext H2 (H2++[some (mvC ⟨vv,a+1,0,false⟩)]):=Ext.app _ _
       refine appG (enc:=mvC) (r:=⟨vv,a+1,0,false⟩) (by omega) (by omega) mvC_len mvC_one ((ho.mono hx2).mono hxa) ((hx1.trans hx2).trans hxa) hb (by omega) (by unfold mvA mv3;split<;>simp) get_app0 ?_
       intro v' b' H3 ho3 hx3 hb3 hl3
       (try simp only[ctlB])
       repeat' ((first|refine xSDc ?_|refine xODc rfl ?_);(try simp only[ctlB]))
       exact⟨hx3,_,_,hb3,ho3,exZDe rfl⟩
      ·exfalso;simp at h
     ·rw[if_neg hc]
      have hcc:(decide ((ss:Int)=(s:Nat))&&(u==big))=false:=by
       by_cases h1:ss=s
       ·have:¬ u=big:=fun h2=>hc ⟨h1,h2⟩
        cases u<;>cases big<;>simp_all
       ·rw[decide_eq_false (by omega)];rfl
      refine xCDc (fun h=>?_) (fun h=>?_)
      ·exfalso
       have e:∀x:Bool,(x != false)=x:=by decide
       rw[e,hcc]at h;cases h
      ·(try simp only[ctlB])
       exact⟨hx1.trans hx2,_,_,hb,by rw[List.append_nil];exact ho.mono hx2,exZDe rfl⟩
    ·exfalso;simp at h
   ·have hB:mvB p a s u lower=[]:=by unfold mvB;rw[if_neg (fun h=>hap h.1)]
    have hd:decide (((a:Nat):Int)<(p.length:Nat))=false:=decide_eq_false (by omega)
    rw[hB]
    clear hB ev
    refine xCDc (fun h=>?_) (fun h=>?_)
    ·exfalso;simp at h
    ·(try simp only[ctlB])
     exact⟨hx1,_,_,hb,by rw[List.append_nil];exact ho,exZDe rfl⟩
  ·rintro S' H2 ⟨hx2,w,b,hb,ho,z,rfl⟩
   have hg2:=hx2.get hgb
   have hl2:=hx2.1
   (try simp only[ctlB])
   refine aw_midX (fun S' H'=>Ext Hb H'∧∃w b,Hb.length≤b∧OwnG lo 4 H' w b (cat mvC (movS p a s u lower))∧∃(z:Nat→Value),S'=[ptr sb,z 1,.bool lower,ptr H.length,z 4,w,z 6,z 7,z 8,z 9,z 10,z 11,z 12,z 13,z 14,z 15,z 16,z 17,z 18,z 19,z 20]) ?_ ?_
   ·unfold movS
    by_cases hc:s=2∧u=false
    ·have hD:mvD a s u=[⟨30,a,0,true⟩]:=by unfold mvD;rw[if_pos hc]
     obtain⟨h2,rfl⟩:=hc
     rw[hD]
     clear hD
     have hd:decide (((s:Nat):Int)=2)=true:=decide_eq_true (by omega)
     replace h2:s≤2∧2≤s:=by omega
     refine xCDc (fun h=>?_) (fun h=>?_)
     ·clear h hd
      (try simp only[ctlB])
      repeat' ((first|refine xSDc ?_|refine xODc rfl ?_);(try simp only[ctlB]))
      refine xHDc ?_
      have hxa:Ext H2 (H2++[some (mvC ⟨30,a,0,true⟩)]):=Ext.app _ _
      refine appG (enc:=mvC) (r:=⟨30,a,0,true⟩) (by omega) (by omega) mvC_len mvC_one (ho.mono hxa) (hx2.trans hxa) hb (by omega) (by unfold mvA mvB mv3;split<;>split<;>simp) get_app0 ?_
      intro v' b' H3 ho3 hx3 hb3 hl3
      (try simp only[ctlB])
      repeat' ((first|refine xSDc ?_|refine xODc rfl ?_);(try simp only[ctlB]))
      exact⟨hx3,_,_,hb3,ho3,exZDe rfl⟩
     ·exfalso;simp at h
    ·have hD:mvD a s u=[]:=by unfold mvD;rw[if_neg hc]
     rw[hD,List.append_nil]
     clear hD
     have hcc:(decide (((s:Nat):Int)=2)&&!u)=false:=by
      by_cases h1:s=2
      ·have:¬ u=false:=fun h2=>hc ⟨h1,h2⟩
       cases u<;>simp_all
      ·rw[decide_eq_false (by omega)];rfl
     refine xCDc (fun h=>?_) (fun h=>?_)
     ·exfalso;first|(rw[hcc]at h;cases h)|cases h
     ·(try simp only[ctlB])
      exact⟨hx2,_,_,hb,ho,exZDe rfl⟩
   ·rintro S' H3 ⟨hx3,w,b,hb,ho,z,rfl⟩
    (try simp only[ctlB])
    repeat' ((first|refine xSDc ?_|refine xODc rfl ?_);(try simp only[ctlB]))
    refine xRDc ?_
    exact⟨hxb.trans hx3,b,by omega,ho⟩
end
end Go.Proofs.Ythnflhimcmdnbaa
namespace Go.Proofs.Ythnflhimcmdnbaa
open Go.Abs
set_option linter.unusedSimpArgs false
set_option linter.unusedVariables false
set_option maxRecDepth 20000
theorem OwnG.keep{lo n b b':Nat}{H H':Heap}{v:Value}{X:List Value}(h:OwnG lo n H v b X)(e:Keep b' H H')(hne:b≠b'):OwnG lo n H' v b X:=by
 rcases h with h|⟨h1,k,h2,h3,h4,h5⟩
 ·exact .inl (h.keep e hne)
 ·exact .inr ⟨h1,k,h2,h3,h4,e.get h5 hne⟩
theorem keepTrans{b b':Nat}{H H1 H2:Heap}(h:Keep b H H1)(hb:b'=b∨H.length≤b')(h2:Keep b' H1 H2):Keep b H H2:=
 ⟨Nat.le_trans h.len h2.len,fun i hi hne=>by rw[h2.eq i (Nat.lt_of_lt_of_le hi h.len) (by omega),h.eq i hi hne]⟩
theorem Ext.keep{b:Nat}{H H1:Heap}(h:Ext H H1):Keep b H H1:=⟨h.1,fun i hi _=>h.2 i hi⟩
def AppG(lo n:Nat)(G:Heap)(b:Nat)(X:List Value)(w:Value)(H':Heap):Prop:=∃b',(b'=b∨G.length≤b')∧b'<H'.length∧OwnG lo n H' w b' X∧Keep b G H'
theorem AppG.self{lo n b:Nat}{G:Heap}{w:Value}{X:List Value}(h:OwnG lo n G w b X)(hb:b<G.length):AppG lo n G b X w G:=⟨b,.inl rfl,hb,h,Ext.keep (Ext.refl _)⟩
theorem AppG.trans{lo n b b':Nat}{G H1 G2 H2:Heap}{w:Value}{X:List Value}(hk:Keep b G H1)(hb:b'=b∨G.length≤b')(hx:Ext H1 G2)(h:AppG lo n G2 b' X w H2):AppG lo n G b X w H2:=by
 obtain⟨b2,h1,h2,h3,h4⟩:=h
 have l1:=hk.len
 have l2:=hx.1
 exact⟨b2,by omega,h2,h3,keepTrans hk hb (keepTrans (Ext.keep hx) (.inl rfl) h4)⟩
theorem AppG.ext{lo n b:Nat}{A G H1:Heap}{w:Value}{X:List Value}(h:AppG lo n G b X w H1)(e:Ext A G)(hb:A.length≤b):Ext A H1:=by
 obtain⟨b2,h1,h2,h3,h4⟩:=h
 exact h4.ext e hb
section
variable {α:Type}{enc:α→List Value}{n:Nat}
theorem appK{cp:FuncId→Option CF}{lo:Nat}{z:List Value}{H:Heap}{v:Value}{b t:Nat}{sp:Option Nat}{m:Nat}{L:List α}{r:α}{R:Value→Heap→Prop}(hn:0<n)(hn2:n≤100)(he:∀x,(enc x).length=n)(h1:∀x,oneCells (enc x)=true)(ho:OwnG lo n H v b (cat enc L))(hlo:lo≤H.length)(hbig:L.length≤10000000)(ht:H.get t=some (enc r))
  (k:∀v' H',AppG lo n H b (cat enc (L++[r])) v' H'→R v' H'):wpH cp lo (.app n z) [v,.slice (some ⟨t,0,sp⟩) 1 m] H R:=by
 have hcl:=cat_len he L
 have hcb:(cat enc L).length≤1000000000:=by
  rw[hcl]
  exact Nat.le_trans (Nat.mul_le_mul hbig hn2) (by decide)
 have hl1:(enc r).length=n:=he r
 rcases ho with ho|⟨hb,q,hq0,hq,rfl,hg⟩
 ·refine wpH_app ho (by omega) hn (by omega) (by omega) ht (by omega) (c:=enc r) (by rw[List.drop_zero,List.take_of_length_le (by omega)]) (h1 r) ?_
  intro v' H' ho' hk hl'
  refine k v' H' ⟨H.length,.inr (Nat.le_refl _),by omega,.inl ?_,hk⟩
  rw[cat_app]
  simpa[cat]using ho'
 ·have e1:H.cells t 0 (1*n)=some (enc r):=by rw[cells_get ht (by omega),List.drop_zero,List.take_of_length_le (by omega)]
  have e2:H.cells b 0 (q*n)=some (cat enc L):=by rw[cells_get hg (by omega),List.drop_zero,List.take_of_length_le (by omega)]
  have hq1:q≤(cat enc L).length:=by rw[←hq];exact Nat.le_mul_of_pos_right q hn
  simp only[wpH,hsem0,hsem,e1,Option.bind_some,h1 r,if_true,appendSem]
  rw[if_neg (by omega),if_neg (by show ¬ mostNeed<_;unfold mostNeed;omega),e2]
  simp only[Option.map_some]
  refine k _ _ ⟨H.length,.inr (Nat.le_refl _),by simp,.inl ⟨by omega,.inr ⟨q+1,by omega,?_,rfl,?_⟩⟩,Ext.keep (Ext.app _ _)⟩
  ·rw[cat_app,List.length_append,←hq,Nat.succ_mul];simp[cat,hl1]
  ·rw[get_app0,cat_app];simp[cat]
end
theorem flatMap_le{α β:Type}{f:α→List β}{c:Nat}:∀{l:List α},(∀x ∈ l,(f x).length≤c)→(l.flatMap f).length≤l.length*c
 | [],h=>by simp
 | x::l,h=>by
  rw[List.flatMap_cons,List.length_append,List.length_cons,Nat.succ_mul]
  have:=flatMap_le (l:=l) (fun y hy=>h y (List.mem_cons_of_mem _ hy))
  have:=h x (by simp)
  omega
theorem tri3_len{first:Nat}{u v:Mv}{L:List Mv}:(tri3 first u v L).length=L.length:=by simp[tri3]
theorem tri2_len{p:List UInt8}{first:Nat}{lower:Bool}{u:Mv}{L:List Mv}:(tri2 p first lower u L).length≤L.length*5:=flatMap_le fun v _=>by rw[tri3_len];exact movS_len _ _ _ _ _
theorem tri1_len{p:List UInt8}{first:Nat}{lower:Bool}{L:List Mv}:(tri1 p first lower L).length≤L.length*25:=flatMap_le fun u _=>by
 have:=tri2_len (p:=p) (first:=first) (lower:=lower) (u:=u) (L:=movS p u.a u.s u.u lower)
 have:=movS_len p u.a u.s u.u lower
 omega
section
variable {lo:Nat}{H:Heap}{sb cb:Nat}{v:Value}{p:List UInt8}{cs:List Nat}
theorem tripP{a st first:Nat}{lower:Bool}(hs:SrH H sb cb v p cs)(ha:a≤p.length)(hst:st<8)(hf:first≤9)(hlo:lo≤H.length):Ev cp lo 48 [ptr sb,encN a,encN st,encN first,.bool lower] H (fun r H'=>Ext H H'∧∃b,H.length≤b∧OwnG lo 7 H' r b (cat optC (tripS p a st first lower))):=by
 have hi:=hs.hi
 have hmod:(st:Int).tmod 4=((st%4:Nat):Int):=by rw[Int.tmod_eq_emod_of_nonneg (by omega)];omega
 have hge:decide ((4:Int)≤(st:Nat))=decide (4≤st):=by
  by_cases h:4≤st
  ·rw[decide_eq_true h,decide_eq_true (by omega)]
  ·rw[decide_eq_false h,decide_eq_false (by omega)]
 have hst4:st%4<4:=Nat.mod_lt _ (by decide)
 unfold tripS
 generalize st%4=s at hmod hst4
 generalize decide (4≤st)=u at hge
 refine st48 ?_;unfold bd48 cf48;simp only[kB,ctlB]
 repeat' ((first|refine xSDc ?_|refine xODc rfl ?_);(try simp only[ctlB]))
 clear hge hmod
 have hxb:Ext H (H++[some (optC (latO a)),some [encN a,encN s,.bool u]]):=Ext.app _ _
 have hg0:(H++[some (optC (latO a)),some [encN a,encN s,.bool u]]).get H.length=some (optC (latO a)):=get_app0
 have hg1:(H++[some (optC (latO a)),some [encN a,encN s,.bool u]]).get (H.length+1)=some [encN a,encN s,.bool u]:=by rw[get_appS];rfl
 have hl0:(H++[some (optC (latO a)),some [encN a,encN s,.bool u]]).length=H.length+2:=by simp
 have hl0':(H++[some (optC (latO a)),some [encN a,encN s,.bool u]]).length≤H.length+2∧H.length+2≤(H++[some (optC (latO a)),some [encN a,encN s,.bool u]]).length:=by omega
 clear hl0
 change wpS cp lo _ _ _ (H++[some (optC (latO a)),some [encN a,encN s,.bool u]])
 generalize H++[some (optC (latO a)),some [encN a,encN s,.bool u]]=H0 at hxb hg0 hg1 hl0'
 have ho0:OwnG lo 7 H0 (.slice (some ⟨H.length,0,none⟩) 1 1) H.length (cat optC [latO a]):=.inr ⟨hlo,1,by omega,rfl,rfl,hg0⟩
 refine xHDc ?_
 refine wpH_call0 (movP (hs.ext hxb) ha (by omega) (by omega)) ?_
 rintro mu H1 ⟨hx1,bu,hbu,hoU⟩
 have hUl:=movS_len p a s u lower
 have hUok:=movS_ok (s:=s) (u:=u) (lower:=lower) ha
 generalize movS p a s u lower=U at hoU hUl hUok
 obtain⟨au,rfl⟩:=hoU.len (by omega) mvC_len
 replace ho0:=ho0.mono hx1
 have hx01:=hxb.trans hx1
 have hl1:=hx1.1
 clear hg0 hg1 hxb
 (try simp only[ctlB])
 repeat' ((first|refine xSDc ?_|refine xODc rfl ?_);(try simp only[ctlB]))
 refine aw_for (fun k S H'=>∃w,AppG lo 7 H1 H.length (cat optC (latO a::tri1 p first lower (U.take k))) w H'∧∃(z:Nat→Value),S=[ptr sb,encN a,z 2,encN first,.bool lower,z 5,w,z 7,z 8,z 9,z 10,z 11,z 12,z 13,.slice au U.length U.length,.int .i64 (U.length:Nat),.int .i64 (k:Nat),z 17,z 18,z 19,z 20,z 21,z 22,z 23,z 24,z 25,z 26,z 27,z 28,z 29]) U.length ⟨_,AppG.self ho0 (by omega),exZDe (by first|rfl|(simp only[Int.natCast_add,Int.natCast_one];rfl)|simp only[Int.natCast_add,Int.natCast_one])⟩ ?_ ?_ ?_
 ·rintro k S H' hk ⟨w,hap,z,rfl⟩
  exact⟨decide ((k:Int)<(U.length:Nat)),by simp(disch:=first|omega|(simp only[lenB];omega))only[evB,xBDc,Nat.reduceAdd,Nat.reduceBEq, *],by simp⟩
 ·rintro k S H2 hk ⟨w,hap,z,rfl⟩
  obtain⟨b2,hb2,hb2l,ho2,hk2⟩:=hap
  have hx2:=hk2.ext hx01 (Nat.le_refl _)
  have hU2:=hoU.keep hk2 (by omega)
  obtain⟨p2,o2,X2,i2,g2,l2,e2⟩:=hU2.at (by omega) mvC_len hk
  have hokU:=hUok _ (List.getElem_mem hk)
  have hsplit:=flatMap_take (fun u=>tri2 p first lower u (movS p u.a u.s u.u lower)) U k hk
  change tri1 p first lower (U.take (k+1))=tri1 p first lower (U.take k)++_ at hsplit
  have hTl:=tri1_len (p:=p) (first:=first) (lower:=lower) (L:=U.take k)
  have hTk:(U.take k).length=k:=List.length_take_of_le (by omega)
  rw[hsplit]
  clear hsplit
  generalize tri1 p first lower (U.take k)=T1 at ho2 hTl
  generalize U[k]=um at e2 hokU
  have hl2:=hk2.len
  (try simp only[ctlB])
  repeat' ((first|refine xSDc ?_|refine xODc rfl ?_);(try simp only[ctlB]))
  change wpS cp lo _ _ _ (H2++[some (mvC um)])
  have hxc:Ext H2 (H2++[some (mvC um)]):=Ext.app _ _
  have hgu:(H2++[some (mvC um)]).get H2.length=some [encN um.v,encN um.a,encN um.s,.bool um.u]:=get_app0
  have hlc:(H2++[some (mvC um)]).length≤H2.length+1∧H2.length+1≤(H2++[some (mvC um)]).length:=by simp
  generalize H2++[some (mvC um)]=H3 at hxc hgu hlc
  obtain⟨hv1,hv2,hv3,hv4⟩:=hokU
  clear g2 l2 e2 i2 hU2
  refine xHDc ?_
  refine wpH_call0 (movP (hs.ext (hx2.trans hxc)) hv3 hv4 (by omega)) ?_
  rintro mv H4 ⟨hx4,bv,hbv,hoV⟩
  have hVl:=movS_len p um.a um.s um.u lower
  have hVok:=movS_ok (s:=um.s) (u:=um.u) (lower:=lower) hv3
  generalize movS p um.a um.s um.u lower=V at hoV hVl hVok
  obtain⟨av,rfl⟩:=hoV.len (by omega) mvC_len
  have ho4:=ho2.mono (hxc.trans hx4)
  have hx24:=hxc.trans hx4
  have hgu4:=hx4.get hgu
  have hl4:=hx4.1
  have hx04:=hx2.trans hx24
  clear hgu
  (try simp only[ctlB])
  repeat' ((first|refine xSDc ?_|refine xODc rfl ?_);(try simp only[ctlB]))
  refine aw_for (fun j S H'=>∃w,AppG lo 7 H4 b2 (cat optC (latO a::(T1++tri2 p first lower um (V.take j)))) w H'∧∃(z:Nat→Value),S=[ptr sb,encN a,z 2,encN first,.bool lower,z 5,w,z 7,ptr H2.length,z 9,z 10,z 11,z 12,z 13,.slice au U.length U.length,.int .i64 (U.length:Nat),.int .i64 (k:Nat),z 17,.slice av V.length V.length,.int .i64 (V.length:Nat),.int .i64 (j:Nat),z 21,z 22,z 23,z 24,z 25,z 26,z 27,z 28,z 29]) V.length ⟨_,AppG.self (by simpa[tri2]using ho4) (by omega),exZDe (by first|rfl|(simp only[Int.natCast_add,Int.natCast_one];rfl)|simp only[Int.natCast_add,Int.natCast_one])⟩ ?_ ?_ ?_
  ·rintro j S H' hj ⟨w,hap,z,rfl⟩
   exact⟨decide ((j:Int)<(V.length:Nat)),by simp(disch:=first|omega|(simp only[lenB];omega))only[evB,xBDc,Nat.reduceAdd,Nat.reduceBEq, *],by simp⟩
  ·rintro j S H5 hj ⟨w,hap,z,rfl⟩
   obtain⟨b5,hb5,hb5l,ho5,hk5⟩:=hap
   have hx5:=hk5.ext hx04 (by omega)
   have hV5:=hoV.keep hk5 (by omega)
   have hgu5:=hk5.get hgu4 (by omega)
   obtain⟨p5,o5,X5,i5,g5,l5,e5⟩:=hV5.at (by omega) mvC_len hj
   have hokV:=hVok _ (List.getElem_mem hj)
   have hsplit:=flatMap_take (fun v=>tri3 first um v (movS p v.a v.s v.u lower)) V j hj
   change tri2 p first lower um (V.take (j+1))=tri2 p first lower um (V.take j)++_ at hsplit
   have hT2l:=tri2_len (p:=p) (first:=first) (lower:=lower) (u:=um) (L:=V.take j)
   have hTj:(V.take j).length=j:=List.length_take_of_le (by omega)
   rw[hsplit]
   clear hsplit
   generalize tri2 p first lower um (V.take j)=T2 at ho5 hT2l
   generalize V[j]=vm at e5 hokV
   have hl5:=hk5.len
   (try simp only[ctlB])
   repeat' ((first|refine xSDc ?_|refine xODc rfl ?_);(try simp only[ctlB]))
   change wpS cp lo _ _ _ (H5++[some (mvC vm)])
   have hxd:Ext H5 (H5++[some (mvC vm)]):=Ext.app _ _
   have hgv:(H5++[some (mvC vm)]).get H5.length=some [encN vm.v,encN vm.a,encN vm.s,.bool vm.u]:=get_app0
   have hld:(H5++[some (mvC vm)]).length≤H5.length+1∧H5.length+1≤(H5++[some (mvC vm)]).length:=by simp
   generalize H5++[some (mvC vm)]=H6 at hxd hgv hld
   obtain⟨hw1,hw2,hw3,hw4⟩:=hokV
   clear g5 l5 e5 i5 hV5
   have hgu6:=hxd.get hgu5
   refine xHDc ?_
   refine wpH_call0 (movP (hs.ext (hx5.trans hxd)) hw3 hw4 (by omega)) ?_
   rintro mw H7 ⟨hx7,bw,hbw,hoW⟩
   have hWl:=movS_len p vm.a vm.s vm.u lower
   have hWok:=movS_ok (s:=vm.s) (u:=vm.u) (lower:=lower) hw3
   generalize movS p vm.a vm.s vm.u lower=W at hoW hWl hWok
   obtain⟨aw,rfl⟩:=hoW.len (by omega) mvC_len
   have ho7:=ho5.mono (hxd.trans hx7)
   have hx57:=hxd.trans hx7
   have hgv7:=hx7.get hgv
   have hgu7:=hx7.get hgu6
   have hl7:=hx7.1
   have hx07:=hx5.trans hx57
   clear hgv hgu6
   (try simp only[ctlB])
   repeat' ((first|refine xSDc ?_|refine xODc rfl ?_);(try simp only[ctlB]))
   refine aw_for (fun q S H'=>∃w,AppG lo 7 H7 b5 (cat optC (latO a::(T1++(T2++tri3 first um vm (W.take q))))) w H'∧∃(z:Nat→Value),S=[ptr sb,encN a,z 2,encN first,.bool lower,z 5,w,z 7,ptr H2.length,ptr H5.length,z 10,z 11,z 12,z 13,.slice au U.length U.length,.int .i64 (U.length:Nat),.int .i64 (k:Nat),z 17,.slice av V.length V.length,.int .i64 (V.length:Nat),.int .i64 (j:Nat),z 21,.slice aw W.length W.length,.int .i64 (W.length:Nat),.int .i64 (q:Nat),z 25,z 26,z 27,z 28,z 29]) W.length ⟨_,AppG.self (by simpa[tri3]using ho7) (by omega),exZDe (by first|rfl|(simp only[Int.natCast_add,Int.natCast_one];rfl)|simp only[Int.natCast_add,Int.natCast_one])⟩ ?_ ?_ ?_
   ·rintro q S H' hq ⟨w,hap,z,rfl⟩
    exact⟨decide ((q:Int)<(W.length:Nat)),by simp(disch:=first|omega|(simp only[lenB];omega))only[evB,xBDc,Nat.reduceAdd,Nat.reduceBEq, *],by simp⟩
   ·rintro q S H8 hq ⟨w,hap,z,rfl⟩
    obtain⟨b8,hb8,hb8l,ho8,hk8⟩:=hap
    have hx8:=hk8.ext hx07 (by omega)
    have hW8:=hoW.keep hk8 (by omega)
    have hgu8:=hk8.get hgu7 (by omega)
    have hgv8:=hk8.get hgv7 (by omega)
    obtain⟨p8,o8,X8,i8,g8,l8,e8⟩:=hW8.at (by omega) mvC_len hq
    have hokW:=hWok _ (List.getElem_mem hq)
    have hsplit:=map_take (fun w:Mv=>triO um.v vm.v w.v w.a (modeS first w)) W q hq
    change tri3 first um vm (W.take (q+1))=tri3 first um vm (W.take q)++_ at hsplit
    have hT3l:=tri3_len (first:=first) (u:=um) (v:=vm) (L:=W.take q)
    have hTq:(W.take q).length=q:=List.length_take_of_le (by omega)
    rw[hsplit]
    clear hsplit
    generalize tri3 first um vm (W.take q)=T3 at ho8 hT3l
    generalize W[q]=wm at e8 hokW
    have hl8:=hk8.len
    obtain⟨hz1,hz2,hz3,hz4⟩:=hokW
    (try simp only[ctlB])
    repeat' ((first|refine xSDc ?_|refine xODc rfl ?_);(try simp only[ctlB]))
    change wpS cp lo _ _ _ (H8++[some (mvC wm)])
    have hxe:Ext H8 (H8++[some (mvC wm)]):=Ext.app _ _
    have hgw:(H8++[some (mvC wm)]).get H8.length=some [encN wm.v,encN wm.a,encN wm.s,.bool wm.u]:=get_app0
    have hle:(H8++[some (mvC wm)]).length≤H8.length+1∧H8.length+1≤(H8++[some (mvC wm)]).length:=by simp
    generalize H8++[some (mvC wm)]=H9 at hxe hgw hle
    clear g8 l8 e8 i8 hW8
    have hgu9:=hxe.get hgu8
    have hgv9:=hxe.get hgv8
    replace ho8:=ho8.mono hxe
    have hmS:modeS first wm=if wm.u then first+wm.s+4 else first+wm.s:=rfl
    have hmle:=modeS_le (first:=first) hz4
    refine aw_midX (fun S' H'=>H9=H'∧∃(z:Nat→Value),S'=[ptr sb,encN a,z 2,encN first,.bool lower,z 5,w,z 7,ptr H2.length,ptr H5.length,ptr H8.length,encN (modeS first wm),z 12,z 13,.slice au U.length U.length,.int .i64 (U.length:Nat),.int .i64 (k:Nat),z 17,.slice av V.length V.length,.int .i64 (V.length:Nat),.int .i64 (j:Nat),z 21,.slice aw W.length W.length,.int .i64 (W.length:Nat),.int .i64 (q:Nat),z 25,z 26,z 27,z 28,z 29]) ?_ ?_
    ·generalize modeS first wm=ms at hmS hmle
     cases hwu:wm.u with
     | true=>
      rw[hwu]at hmS hgw
      simp only[if_true]at hmS
      subst hmS
      refine xCDc (fun h=>?_) (fun h=>?_)
      ·clear h
       (try simp only[ctlB])
       repeat' ((first|refine xSDc ?_|refine xODc rfl ?_);(try simp only[ctlB]))
       exact⟨by trivial,exZDe (by first|rfl|(simp only[Int.natCast_add,Int.natCast_one];rfl)|simp only[Int.natCast_add,Int.natCast_one])⟩
      ·cases h
     | false=>
      rw[hwu]at hmS hgw
      simp only[Bool.false_eq_true,if_false]at hmS
      subst hmS
      refine xCDc (fun h=>?_) (fun h=>?_)
      ·cases h
      ·clear h
       (try simp only[ctlB])
       exact⟨by trivial,exZDe (by first|rfl|(simp only[Int.natCast_add,Int.natCast_one];rfl)|simp only[Int.natCast_add,Int.natCast_one])⟩
    ·rintro S' H9' ⟨rfl,z,rfl⟩
     clear hmS
     generalize modeS first wm=ms at hmle
     (try simp only[ctlB])
     refine xHDc ?_
     refine wpH_call0 (triP (lo:=lo) (u:=um.v) (v:=vm.v) (w:=wm.v) (a:=wm.a) (m:=ms) (by omega) (by omega) (by omega) (by omega) (by omega) (by omega)) ?_
     rintro r H10 ⟨hx10,rfl⟩
     have hTl2:T1.length+T2.length+T3.length≤1000:=by omega
     clear hgu9 hgv9 hgw hgu8 hgv8
     generalize triO um.v vm.v wm.v wm.a ms=o
     have hl10:=hx10.1
     (try simp only[ctlB])
     repeat' ((first|refine xSDc ?_|refine xODc rfl ?_);(try simp only[ctlB]))
     change wpS cp lo _ _ _ (H10++[some (optC o)])
     have hxf:Ext H10 (H10++[some (optC o)]):=Ext.app _ _
     have hgo:(H10++[some (optC o)]).get H10.length=some (optC o):=get_app0
     have hlf:(H10++[some (optC o)]).length≤H10.length+1∧H10.length+1≤(H10++[some (optC o)]).length:=by simp
     generalize H10++[some (optC o)]=H11 at hxf hgo hlf
     refine xHDc ?_
     refine appK (enc:=optC) (r:=o) (by omega) (by omega) optC_len optC_one (ho8.mono (hx10.trans hxf)) (by omega) (by simp;omega) hgo ?_
     intro v' H12 hap
     have hap2:=AppG.trans hk8 hb8 (hxe.trans (hx10.trans hxf)) hap
     clear hgo
     (try simp only[ctlB])
     repeat' ((first|refine xSDc ?_|refine xODc rfl ?_);(try simp only[ctlB]))
     exact⟨_,by simpa using hap2,exZDe (by first|rfl|(simp only[Int.natCast_add,Int.natCast_one];rfl)|simp only[Int.natCast_add,Int.natCast_one])⟩
   ·rintro S H8 ⟨w,hap,z,rfl⟩
    rw[List.take_length]at hap
    have hap2:=AppG.trans hk5 hb5 hx57 hap
    (try simp only[ctlB])
    repeat' ((first|refine xSDc ?_|refine xODc rfl ?_);(try simp only[ctlB]))
    exact⟨_,hap2,exZDe (by first|rfl|(simp only[Int.natCast_add,Int.natCast_one];rfl)|simp only[Int.natCast_add,Int.natCast_one])⟩
  ·rintro S H5 ⟨w,hap,z,rfl⟩
   rw[List.take_length]at hap
   have hap2:=AppG.trans hk2 hb2 hx24 hap
   (try simp only[ctlB])
   repeat' ((first|refine xSDc ?_|refine xODc rfl ?_);(try simp only[ctlB]))
   exact⟨_,hap2,exZDe (by first|rfl|(simp only[Int.natCast_add,Int.natCast_one];rfl)|simp only[Int.natCast_add,Int.natCast_one])⟩
 ·rintro S H2 ⟨w,hap,z,rfl⟩
  rw[List.take_length]at hap
  have hx2:=hap.ext hx01 (Nat.le_refl _)
  obtain⟨b2,hb2,hb2l,ho2,hk2⟩:=hap
  (try simp only[ctlB])
  repeat' ((first|refine xSDc ?_|refine xODc rfl ?_);(try simp only[ctlB]))
  refine xRDc ?_
  exact⟨hx2,b2,by omega,ho2⟩
end
end Go.Proofs.Ythnflhimcmdnbaa
