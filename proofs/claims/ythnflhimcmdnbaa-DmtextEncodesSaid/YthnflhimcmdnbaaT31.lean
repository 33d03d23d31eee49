/- Dmtext: the reference's nodes and steps, in plain terms. Dmtext, the reference: small functions. Dmtext, the reference: the steps in C40, Text and X12. -/
import Derived.Test.YthnflhimcmdnbaaT20
import Derived.Test.YthnflhimcmdnbaaT21
set_option linter.unusedVariables false
set_option linter.unusedSimpArgs false
set_option linter.unusedSectionVars false
namespace Go.Proofs.Ythnflhimcmdnbaa
open Go.Abs
set_option linter.unusedSimpArgs false
set_option linter.unusedVariables false
set_option maxRecDepth 20000
structure RN where
 i:Nat
 m:Nat
 ph:Nat
 s:Nat
 u:Bool
structure RS where
 w:Nat
 s:Int
 t:Int
 c:Nat
 to:RN
def rnC(n:RN):List Value:=[encN n.i,encN n.m,encN n.ph,encN n.s,.bool n.u]
abbrev rnV(n:RN):Value:=.agg #[encN n.i,encN n.m,encN n.ph,encN n.s,.bool n.u]
def rsC(x:RS):List Value:=[encN x.w,.int .i64 x.s,.int .i64 x.t,encN x.c,encN x.to.i,encN x.to.m,encN x.to.ph,encN x.to.s,.bool x.to.u]
abbrev rsV(x:RS):Value:=.agg #[encN x.w,.int .i64 x.s,.int .i64 x.t,encN x.c,encN x.to.i,encN x.to.m,encN x.to.ph,encN x.to.s,.bool x.to.u]
theorem rnC_len(n:RN):(rnC n).length=5:=rfl
theorem rnC_one(n:RN):oneCells (rnC n)=true:=rfl
theorem rsC_len(n:RS):(rsC n).length=9:=rfl
theorem rsC_one(n:RS):oneCells (rsC n)=true:=rfl
def numR(n:RN):Nat:=if n.m=3∨n.m=4 then 100+10*(n.m-3)+n.ph else n.m*32+(n.ph+4*n.s+if n.u then 16 else 0)
def chrR(n:RN)(v:Nat):Nat:=if n.m=3 then xchr v else if chrS (n.m==2) n.s v=128 then 256 else chrS (n.m==2) n.s v+if n.u then 128 else 0
def unitR(p:List UInt8)(n:RN)(v:Nat):Option RN:=
 if n.m≠3∧n.s=0∧v<3 then some ⟨n.i,n.m,(n.ph+1)%3,v+1,n.u⟩
 else if n.m≠3∧n.s=2∧v=30∧n.u=false then some ⟨n.i,n.m,(n.ph+1)%3,0,true⟩
 else if n.i<p.length∧by' p n.i=chrR n v then some ⟨n.i+1,n.m,(n.ph+1)%3,0,false⟩ else none
def unitL(p:List UInt8)(n:RN):Nat→List RS
 | 0=>if n.ph=0 then[⟨254,-1,-1,1,⟨n.i,0,0,0,false⟩⟩] else[]
 | v+1=>unitL p n v++match unitR p n v with
  | some t=>[⟨v,-1,-1,if n.ph=0 then 2 else 0,t⟩]
  | none=>[]
def unitsR(p:List UInt8)(n:RN):List RS:=unitL p n 40
def asR(i:Nat):RN:=⟨i,0,0,0,false⟩
def pairR(p:List UInt8)(i:Nat):List RS:=if i+1<p.length∧digB (by' p i)=true∧digB (by' p (i+1))=true then[⟨130+10*(by' p i-48)+(by' p (i+1)-48),-1,-1,1,asR (i+2)⟩] else[]
def lowR(p:List UInt8)(i:Nat):List RS:=if i<p.length∧by' p i<128 then[⟨by' p i+1,-1,-1,1,asR (i+1)⟩] else[]
def highR(p:List UInt8)(i:Nat):List RS:=if i<p.length∧128≤by' p i then[⟨235,(by' p i-127:Nat),-1,2,asR (i+1)⟩] else[]
def latW(m:Nat):Nat:=if m=1 then 230 else if m=2 then 239 else if m=3 then 238 else if m=4 then 240 else 0
def latR(i k:Nat):List RS:=(List.range k).map fun j=>⟨latW (j+1),-1,-1,1,⟨i,j+1,0,0,false⟩⟩
def runR(i d:Nat):RS:=if d<250 then⟨231,(d:Nat),-1,2+d,asR (i+d)⟩ else⟨231,(d/250+249:Nat),(d%250:Nat),3+d,asR (i+d)⟩
def runsR(i k:Nat):List RS:=(List.range k).map fun j=>runR i (j+1)
def startsR(p:List UInt8)(i:Nat):List RS:=pairR p i++lowR p i++highR p i++latR i 4++runsR i (min 1749 (p.length-i))
def ediC(n:RN):Nat:=if n.ph=3 then 0 else 1
def edisR(p:List UInt8)(n:RN):List RS:=[⟨31,-1,-1,ediC n,asR n.i⟩]++if n.i<p.length∧32≤by' p n.i∧by' p n.i≤94 then[⟨by' p n.i%64,-1,-1,ediC n,⟨n.i+1,4,(n.ph+1)%4,0,false⟩⟩] else[]
def stepsR(p:List UInt8)(n:RN):List RS:=if n.m=0 then startsR p n.i else if n.m≠4 then unitsR p n else edisR p n
structure RN.ok (N:Nat)(n:RN):Prop where
 i:n.i≤N
 m:n.m≤4
 ph:n.ph≤3∧(n.m≠4→n.ph≤2)∧(n.m=0→n.ph=0)
 s:n.s≤3∧(n.m=0∨3≤n.m→n.s=0∧n.u=false)
theorem numR_lt{N:Nat}{n:RN}(h:n.ok N):numR n<128:=by
 obtain⟨h1,h2,⟨h3,h4,h5⟩,h6,h7⟩:=h
 unfold numR
 split
 ·omega
 ·split<;>omega
theorem chrR_lt{n:RN}{v:Nat}(hv:v<40):chrR n v≤256:=by
 unfold chrR
 split
 ·unfold xchr;repeat' split
  all_goals omega
 ·have:chrS (n.m==2) n.s v≤128:=by
   unfold chrS
   repeat' split
   all_goals omega
  split
  ·omega
  ·split<;>omega
theorem unitR_ok{p:List UInt8}{n t:RN}{v:Nat}(h:n.ok p.length)(hm:1≤n.m∧n.m≤3)(hu:unitR p n v=some t):t.ok p.length:=by
 obtain⟨h1,h2,⟨h3,h4,h5⟩,h6,h7⟩:=h
 unfold unitR at hu
 split at hu
 ·cases hu
  refine⟨h1,h2,⟨by simp only;omega,fun _=>by simp only;omega,fun e=>by simp only at e;omega⟩,by simp only;omega,fun e=>by simp only at e;omega⟩
 ·split at hu
  ·cases hu
   refine⟨h1,h2,⟨by simp only;omega,fun _=>by simp only;omega,fun e=>by simp only at e;omega⟩,by simp only;omega,fun e=>by simp only at e;omega⟩
  ·split at hu
   ·cases hu
    refine⟨by simp only;omega,h2,⟨by simp only;omega,fun _=>by simp only;omega,fun e=>by simp only at e;omega⟩,by simp only;omega,fun e=>⟨rfl,rfl⟩⟩
   ·cases hu
theorem asR_ok{N i:Nat}(h:i≤N):(asR i).ok N:=⟨h,by simp[asR],⟨by simp[asR],fun _=>by simp[asR],fun _=>rfl⟩,by simp[asR],fun _=>⟨rfl,rfl⟩⟩
structure RS.ok (N:Nat)(x:RS):Prop where
 to:x.to.ok N
 w:x.w≤255
 c:x.c≤2000
 s:-1≤x.s∧x.s≤2000
 t:-1≤x.t∧x.t≤2000
theorem unitL_ok{p:List UInt8}{n:RN}(h:n.ok p.length)(hm:1≤n.m∧n.m≤3):∀k,k≤40→∀x ∈ unitL p n k,x.ok p.length
 | 0,_,x,hx=>by
  unfold unitL at hx
  split at hx
  ·obtain rfl:=List.mem_singleton.1 hx
   exact⟨asR_ok h.i,by simp,by simp,by simp,by simp⟩
  ·cases hx
 | k+1,hk,x,hx=>by
  unfold unitL at hx
  rcases List.mem_append.1 hx with hx|hx
  ·exact unitL_ok h hm k (by omega) x hx
  ·cases hu:unitR p n k with
   | none=>rw[hu]at hx;cases hx
   | some t=>
    rw[hu]at hx
    obtain rfl:=List.mem_singleton.1 hx
    exact⟨unitR_ok h hm hu,by simp only;omega,by simp only;split<;>omega,by simp,by simp⟩
theorem latW_le(m:Nat):latW m≤255:=by
 unfold latW
 repeat' split
 all_goals omega
theorem stepsR_ok{p:List UInt8}{n:RN}(h:n.ok p.length):∀x ∈ stepsR p n,x.ok p.length:=by
 intro x hx
 unfold stepsR at hx
 split at hx
 ·unfold startsR at hx
  simp only[List.mem_append]at hx
  rcases hx with (((hx|hx)|hx)|hx)|hx
  ·unfold pairR at hx
   split at hx
   ·rename_i hc
    obtain⟨h1,h2,h3⟩:=hc
    have h2:=digB_iff.1 h2
    have h3:=digB_iff.1 h3
    obtain rfl:=List.mem_singleton.1 hx
    exact⟨asR_ok (by omega),by simp only;omega,by simp,by simp,by simp⟩
   ·cases hx
  ·unfold lowR at hx
   split at hx
   ·obtain rfl:=List.mem_singleton.1 hx
    exact⟨asR_ok (by omega),by simp only;omega,by simp,by simp,by simp⟩
   ·cases hx
  ·unfold highR at hx
   split at hx
   ·have:=by_lt p n.i
    obtain rfl:=List.mem_singleton.1 hx
    exact⟨asR_ok (by omega),by simp,by simp,by simp only;omega,by simp⟩
   ·cases hx
  ·unfold latR at hx
   obtain⟨j,hj,rfl⟩:=List.mem_map.1 hx
   have:=List.mem_range.1 hj
   have hw:=latW_le (j+1)
   exact⟨⟨h.i,by simp only;omega,⟨by simp,fun _=>by simp,fun e=>by simp only at e;omega⟩,by simp,fun _=>⟨rfl,rfl⟩⟩,hw,by simp,by simp,by simp⟩
  ·unfold runsR at hx
   obtain⟨j,hj,rfl⟩:=List.mem_map.1 hx
   have:=List.mem_range.1 hj
   unfold runR
   split
   ·exact⟨asR_ok (by omega),by simp,by simp only;omega,by simp only;omega,by simp⟩
   ·exact⟨asR_ok (by omega),by simp,by simp only;omega,by simp only;omega,by simp only;omega⟩
 ·split at hx
  ·rename_i h0 h4
   exact unitL_ok h ⟨by omega,by have:=h.m;omega⟩ 40 (Nat.le_refl _) x hx
  ·rename_i h0 h4
   have h4:n.m=4:=Decidable.not_not.1 h4
   unfold edisR at hx
   rcases List.mem_append.1 hx with hx|hx
   ·obtain rfl:=List.mem_singleton.1 hx
    exact⟨asR_ok h.i,by simp,by simp only[ediC];split<;>omega,by simp,by simp⟩
   ·split at hx
    ·obtain rfl:=List.mem_singleton.1 hx
     exact⟨⟨by simp only;omega,by simp,⟨by simp only;omega,fun e=>absurd rfl e,fun e=>by simp only at e;omega⟩,by simp,fun _=>⟨rfl,rfl⟩⟩,by simp only;omega,by simp only[ediC];split<;>omega,by simp,by simp⟩
    ·cases hx
end Go.Proofs.Ythnflhimcmdnbaa
namespace Go.Proofs.Ythnflhimcmdnbaa
open Go.Abs
set_option linter.unusedSimpArgs false
set_option linter.unusedVariables false
set_option maxRecDepth 100000
theorem digRT:(List.range 256).all (fun k=>isB (digB k) ((run cp 4).ret 0 53 [.int .u8 (k:Nat)] []))=true:=by kernel_rfl
theorem plRT:(List.range 40).all (fun k=>isInt (xchr k:Nat) ((run cp 6).ret 0 54 [.int .i64 (k:Nat)] []))=true:=by kernel_rfl
theorem leRT:(List.range 4).all (fun s=>(List.range 40).all fun k=>[false,true].all fun b=>isInt (if chrS b s k=128 then -1 else(chrS b s k:Int)) ((run cp 4).ret 0 55 [.int .i64 (if b then 2 else 1),.int .i64 (s:Nat),.int .i64 (k:Nat)] []))=true:=by kernel_rfl
section
variable {lo:Nat}{H:Heap}
theorem digRP{k:Nat}(hk:k<256)(hlo:lo≤H.length):Ev cp lo 53 [.int .u8 (k:Nat)] H (fun v H'=>v=.bool (digB k)∧Ext H H'):=
 ev_closed cp_plain (n:=4) (v:=.bool (digB k)) rfl (isB_eq (List.all_eq_true.1 digRT k (List.mem_range.2 hk))) rfl hlo
theorem plRP{k:Nat}(hk:k<40)(hlo:lo≤H.length):Ev cp lo 54 [encN k] H (fun v H'=>v=encN (xchr k)∧Ext H H'):=
 ev_closed cp_plain (n:=6) (v:=encN (xchr k)) rfl (isInt_eq (List.all_eq_true.1 plRT k (List.mem_range.2 hk))) rfl hlo
theorem leRP{m s k:Nat}(hm:m=1∨m=2)(hs:s<4)(hk:k<40)(hlo:lo≤H.length):Ev cp lo 55 [encN m,encN s,encN k] H (fun v H'=>v=.int .i64 (if chrS (m==2) s k=128 then -1 else(chrS (m==2) s k:Int))∧Ext H H'):=by
 have h:=List.all_eq_true.1 (List.all_eq_true.1 (List.all_eq_true.1 leRT s (List.mem_range.2 hs)) k (List.mem_range.2 hk))
 rcases hm with rfl|rfl
 ·exact ev_closed cp_plain (n:=4) rfl (isInt_eq (h false (by simp))) rfl hlo
 ·exact ev_closed cp_plain (n:=4) rfl (isInt_eq (h true (by simp))) rfl hlo
theorem numP{N:Nat}{n:RN}(h:n.ok N)(hN:N≤10000):Ev cp lo 30 [rnV n] H (fun r H'=>Ext H H'∧r=encN (numR n)):=by
 obtain⟨h1,h2,⟨h3,h4,h5⟩,h6,h7⟩:=h
 obtain⟨i,m,ph,s,u⟩:=n
 simp only at h1 h2 h3 h4 h5 h6 h7
 have hx:numR ⟨i,m,ph,s,u⟩=if m=3∨m=4 then 100+10*(m-3)+ph else m*32+(ph+4*s+if u then 16 else 0):=rfl
 rw[hx]
 clear hx
 refine st30 ?_;unfold bd30 cf30;simp only[kB,ctlB]
 repeat' ((first|refine xSDg ?_|refine xODg rfl ?_);(try simp only[ctlB]))
 have hxb:Ext H (H++[some [encN i,encN m,encN ph,encN s,.bool u]]):=Ext.app _ _
 have hgb:(H++[some [encN i,encN m,encN ph,encN s,.bool u]]).get H.length=some [encN i,encN m,encN ph,encN s,.bool u]:=get_app0
 generalize H++[some [encN i,encN m,encN ph,encN s,.bool u]]=Hb at hxb hgb
 refine aw_midX (fun S' H'=>Hb=H'∧∃k:Nat,(False∨k=ph+4*s+if u then 16 else 0)∧k≤100∧∃(z:Nat→Value),S'=[z 0,ptr H.length,z 2,.int .i64 (k:Nat)]) ?_ ?_
 ·cases u with
  | true=>
   refine xCDg (fun h=>?_) (fun h=>?_)
   ·clear h
    (try simp only[ctlB])
    repeat' ((first|refine xSDg ?_|refine xODg rfl ?_);(try simp only[ctlB]))
    exact⟨by trivial,ph+4*s+16,.inr rfl,by omega,exZDe (by first|rfl|(simp only[Int.natCast_add,Int.natCast_one];rfl)|simp only[Int.natCast_add,Int.natCast_one])⟩
   ·cases h
  | false=>
   refine xCDg (fun h=>?_) (fun h=>?_)
   ·cases h
   ·clear h
    (try simp only[ctlB])
    exact⟨by trivial,ph+4*s,.inr rfl,by omega,exZDe (by first|rfl|(simp only[Int.natCast_add,Int.natCast_one];rfl)|simp only[Int.natCast_add,Int.natCast_one])⟩
 rintro S' H' ⟨rfl,k,hk,hkl,z,rfl⟩
 rw[←hk.resolve_left id]
 (try simp only[ctlB])
 by_cases hm:m=3∨m=4
 ·have hd:(decide ((m:Int)=3) || decide ((m:Int)=4))=true:=by simp only[Bool.or_eq_true,decide_eq_true_eq];omega
  have e1:100+10*((m:Int)-3)+(ph:Nat)=((100+10*(m-3)+ph:Nat):Int):=by omega
  rw[if_pos hm]
  refine xCDg (fun h=>?_) (fun h=>?_)
  ·clear h
   (try simp only[ctlB])
   repeat' ((first|refine xSDg ?_|refine xODg rfl ?_);(try simp only[ctlB]))
   refine xRDg ?_
   exact⟨hxb,by show Value.int .i64 _=Value.int .i64 _;congr 1⟩
  ·exfalso;first|(rw[hd]at h;cases h)|cases h
 ·have hd:(decide ((m:Int)=3) || decide ((m:Int)=4))=false:=by simp only[Bool.or_eq_false_iff,decide_eq_false_iff_not];omega
  rw[if_neg hm]
  refine xCDg (fun h=>?_) (fun h=>?_)
  ·exfalso;first|(rw[hd]at h;cases h)|cases h
  ·clear h
   (try simp only[ctlB])
   repeat' ((first|refine xSDg ?_|refine xODg rfl ?_);(try simp only[ctlB]))
   refine xRDg ?_
   exact⟨hxb,by show Value.int .i64 _=Value.int .i64 _;congr 1⟩
theorem baseP{x k:Nat}(hx:x≤100000)(hk:k≤100000):Ev cp lo 21 [encN x,encN (k+1)] H (fun r H'=>H=H'∧r=encN ((x+msk k)%256)):=by
 have em:(149*((k+1:Nat):Int)).tmod 255=((149*(k+1)%255:Nat):Int):=by rw[Int.tmod_eq_emod_of_nonneg (by omega)];omega
 have hlt:149*(k+1)%255≤254:=by omega
 have e2:msk k=149*(k+1)%255+1:=rfl
 rw[e2]
 clear e2
 generalize 149*(k+1)%255=w at em hlt ⊢
 have eq:((x:Int)+(w:Nat)+1).tmod 256=(((x+(w+1))%256:Nat):Int):=by rw[Int.tmod_eq_emod_of_nonneg (by omega)];omega
 refine st21 ?_;unfold bd21 cf21;simp only[kB,ctlB]
 repeat' ((first|refine xSDg ?_|refine xODg rfl ?_);(try simp only[ctlB]))
 refine xRDg ?_
 exact⟨rfl,rfl⟩
def lessR(a b:RS):Bool:=if a.w≠b.w then decide (a.w<b.w) else if a.s≠b.s then decide (a.s<b.s) else decide (a.t<b.t)
theorem lessP{a b:RS}:Ev cp lo 32 [rsV a,rsV b] H (fun r H'=>Ext H H'∧r=.bool (lessR a b)):=by
 obtain⟨aw,as',at',ac,ato⟩:=a
 obtain⟨bw,bs,bt,bc,bto⟩:=b
 unfold lessR
 simp only
 refine st32 ?_;unfold bd32 cf32;simp only[kB,ctlB]
 repeat' ((first|refine xSDg ?_|refine xODg rfl ?_);(try simp only[ctlB]))
 have hxb:Ext H (H++[some (rsC ⟨aw,as',at',ac,ato⟩),some (rsC ⟨bw,bs,bt,bc,bto⟩)]):=Ext.app _ _
 have hg0:(H++[some (rsC ⟨aw,as',at',ac,ato⟩),some (rsC ⟨bw,bs,bt,bc,bto⟩)]).get H.length=some (rsC ⟨aw,as',at',ac,ato⟩):=get_app0
 have hg1:(H++[some (rsC ⟨aw,as',at',ac,ato⟩),some (rsC ⟨bw,bs,bt,bc,bto⟩)]).get (H.length+1)=some (rsC ⟨bw,bs,bt,bc,bto⟩):=by rw[get_appS];rfl
 change wpS cp lo _ _ _ (H++[some (rsC ⟨aw,as',at',ac,ato⟩),some (rsC ⟨bw,bs,bt,bc,bto⟩)])
 generalize H++[some (rsC ⟨aw,as',at',ac,ato⟩),some (rsC ⟨bw,bs,bt,bc,bto⟩)]=Hb at hxb hg0 hg1
 replace hg0:Hb.get H.length=some [encN aw,.int .i64 as',.int .i64 at',encN ac,encN ato.i,encN ato.m,encN ato.ph,encN ato.s,.bool ato.u]:=hg0
 replace hg1:Hb.get (H.length+1)=some [encN bw,.int .i64 bs,.int .i64 bt,encN bc,encN bto.i,encN bto.m,encN bto.ph,encN bto.s,.bool bto.u]:=hg1
 by_cases h1:aw≠bw
 ·have hd:decide ((aw:Int)=(bw:Nat))=false:=decide_eq_false (by omega)
  have hd2:decide (aw<bw)=decide ((aw:Int)<(bw:Nat)):=by
   by_cases h:aw<bw
   ·rw[decide_eq_true h,decide_eq_true (by omega)]
   ·rw[decide_eq_false h,decide_eq_false (by omega)]
  rw[if_pos h1,hd2]
  clear hd2
  refine xCDg (fun h=>?_) (fun h=>?_)
  ·(try simp only[ctlB])
   repeat' ((first|refine xSDg ?_|refine xODg rfl ?_);(try simp only[ctlB]))
   refine xRDg ?_
   exact⟨hxb,rfl⟩
  ·exfalso;simp at h;omega
 rw[if_neg h1]
 have hd:decide ((aw:Int)=(bw:Nat))=true:=decide_eq_true (by omega)
 refine xCDg (fun h=>?_) (fun h=>?_)
 ·exfalso;simp at h;omega
 clear h hd h1
 (try simp only[ctlB])
 by_cases h1:as'≠bs
 ·have hd:decide (as'=bs)=false:=decide_eq_false h1
  rw[if_pos h1]
  refine xCDg (fun h=>?_) (fun h=>?_)
  ·(try simp only[ctlB])
   repeat' ((first|refine xSDg ?_|refine xODg rfl ?_);(try simp only[ctlB]))
   refine xRDg ?_
   exact⟨hxb,rfl⟩
  ·exfalso;simp at h;exact h1 h
 rw[if_neg h1]
 have hd:decide (as'=bs)=true:=decide_eq_true (Decidable.not_not.1 h1)
 refine xCDg (fun h=>?_) (fun h=>?_)
 ·exfalso;simp at h
 clear h hd h1
 (try simp only[ctlB])
 repeat' ((first|refine xSDg ?_|refine xODg rfl ?_);(try simp only[ctlB]))
 refine xRDg ?_
 exact⟨hxb,rfl⟩
end
end Go.Proofs.Ythnflhimcmdnbaa
namespace Go.Proofs.Ythnflhimcmdnbaa
open Go.Abs
set_option linter.unusedSimpArgs false
set_option linter.unusedVariables false
set_option maxRecDepth 20000
theorem unitL_len(p:List UInt8)(n:RN):∀k,(unitL p n k).length≤k+1
 | 0=>by unfold unitL;split<;>simp
 | k+1=>by
  have:=unitL_len p n k
  unfold unitL
  rw[List.length_append]
  split<;>simp<;>omega
section
variable {lo:Nat}{H:Heap}{v:Value}{p:List UInt8}
theorem stApp{cp:FuncId→Option CF}{z:List Value}{w:Value}{b:Nat}{L:List RS}{o:RS}{R:Value→Heap→Prop}(ho:OwnG lo 9 H w b (cat rsC L))(hlo:lo≤H.length)(hbig:L.length≤10000000)
  (k:∀v' H',AppG lo 9 H b (cat rsC (L++[o])) v' H'→R v' H'):wpH cp lo (.app 9 z) [w,.slice (some ⟨H.length,0,none⟩) 1 1] (H++[some (rsC o)]) R:=by
 have hx:Ext H (H++[some (rsC o)]):=Ext.app _ _
 refine appK (enc:=rsC) (r:=o) (by omega) (by omega) rsC_len rsC_one (ho.mono hx) (by simp;omega) hbig get_app0 ?_
 intro v' H' h
 exact k v' H' (AppG.trans (Ext.keep (Ext.refl _)) (.inl rfl) hx h)
theorem OwnG.over{n b c:Nat}{H1 H2:Heap}{X:List Value}(h:OwnG lo n H v b X)(e:Ext H H1)(k:Keep c H1 H2)(hc:H.length≤c):OwnG lo n H2 v b X:=by
 have key:∀{Y},H.get b=some Y→H2.get b=some Y:=fun hg=>k.get (e.get hg) (by have:=Heap.get_lt hg;omega)
 rcases h with ⟨h1,h|⟨m,h2,h3,h4,h5⟩⟩|⟨h1,m,h2,h3,h4,h5⟩
 ·exact .inl ⟨h1,.inl h⟩
 ·exact .inl ⟨h1,.inr ⟨m,h2,h3,h4,key h5⟩⟩
 ·exact .inr ⟨h1,m,h2,h3,h4,key h5⟩
theorem unitsP{n:RN}(hv:SlU H v p)(hn:n.ok p.length)(hm:1≤n.m∧n.m≤3)(hl:p.length≤4096)(hlo:lo≤H.length):Ev cp lo 42 [v,rnV n] H (fun r H'=>Ext H H'∧∃b,H.length≤b∧OwnG lo 9 H' r b (cat rsC (unitsR p n))):=by
 obtain⟨ad,c,ev⟩:=hv.len
 rw[ev]at hv ⊢
 clear ev
 have h1:=hn.i
 obtain⟨h3,h4,h5⟩:=hn.ph
 obtain⟨h6,h7⟩:=hn.s
 refine st42 ?_;unfold bd42 cf42;simp only[kB,ctlB]
 repeat' ((first|refine xSDg ?_|refine xODg rfl ?_);(try simp only[ctlB]))
 have hxb:Ext H (H++[some (rnC n)]):=Ext.app _ _
 have hgb:(H++[some (rnC n)]).get H.length=some [encN n.i,encN n.m,encN n.ph,encN n.s,.bool n.u]:=get_app0
 change wpS cp lo _ _ _ (H++[some (rnC n)])
 generalize H++[some (rnC n)]=Hb at hxb hgb
 have hlb:=hxb.1
 refine aw_midX (fun S' H'=>Ext Hb H'∧∃w b,Hb.length≤b∧OwnG lo 9 H' w b (cat rsC (unitL p n 0))∧∃(z:Nat→Value),S'=[.slice ad p.length c,z 1,ptr H.length,z 3,w,.int .i64 ((if n.ph=0 then 2 else 0:Nat):Int),z 6,z 7,z 8,z 9,z 10,z 11,z 12,z 13,z 14,z 15,z 16,z 17,z 18,z 19]) ?_ ?_
 ·unfold unitL
  by_cases h0:n.ph=0
  ·have hd:decide ((n.ph:Int)=0)=true:=decide_eq_true (by omega)
   rw[if_pos h0,if_pos h0]
   replace h0:n.ph≤0:=by omega
   refine xCDg (fun h=>?_) (fun h=>?_)
   ·clear h hd
    (try simp only[ctlB])
    repeat' ((first|refine xSDg ?_|refine xODg rfl ?_);(try simp only[ctlB]))
    refine⟨Ext.app _ _,_,Hb.length+1,by omega,.inl ⟨by omega,.inr ⟨1,by omega,rfl,rfl,?_⟩⟩,exZDe (by first|rfl|(simp only[Int.natCast_add,Int.natCast_one];rfl)|simp only[Int.natCast_add,Int.natCast_one])⟩
    rw[get_appS]
    rfl
   ·exfalso;simp at h
  ·have hd:decide ((n.ph:Int)=0)=false:=decide_eq_false (by omega)
   rw[if_neg h0,if_neg h0]
   refine xCDg (fun h=>?_) (fun h=>?_)
   ·exfalso;simp at h
   ·clear h hd
    (try simp only[ctlB])
    exact⟨Ext.refl _,_,Hb.length,Nat.le_refl _,OwnG.nil (by omega),exZDe (by first|rfl|(simp only[Int.natCast_add,Int.natCast_one];rfl)|simp only[Int.natCast_add,Int.natCast_one])⟩
 rintro S' H1 ⟨hx1,w,b,hb,ho,z,rfl⟩
 have hg1:=hx1.get hgb
 obtain⟨cst0,hcst,hcl⟩:∃q,(False∨(if n.ph=0 then 2 else 0:Nat)=q)∧q≤2:=⟨_,.inr rfl,by split<;>omega⟩
 rw[hcst.resolve_left id]
 have q1:((n.ph:Int)+1).tmod 3=(((n.ph+1)%3:Nat):Int):=by rw[Int.tmod_eq_emod_of_nonneg (by omega)];omega
 obtain⟨ph',hph,hphl⟩:∃q,(False∨(n.ph+1)%3=q)∧q≤2:=⟨_,.inr rfl,by omega⟩
 rw[hph.resolve_left id]at q1
 (try simp only[ctlB])
 repeat' ((first|refine xSDg ?_|refine xODg rfl ?_);(try simp only[ctlB]))
 refine aw_for (fun k S H'=>Ext Hb H'∧∃w b,(Hb.length≤b∧OwnG lo 9 H' w b (cat rsC (unitL p n k)))∧∃(z:Nat→Value),S=[.slice ad p.length c,z 1,ptr H.length,z 3,w,encN cst0,encN ph',.int .i64 (k:Nat),z 8,z 9,z 10,z 11,z 12,z 13,z 14,z 15,z 16,z 17,z 18,z 19]) 40 ⟨hx1,w,b,⟨hb,ho⟩,exZDe rfl⟩ ?_ ?_ ?_
 ·rintro k S H' hk ⟨hx,w,b,_,z,rfl⟩
  exact⟨decide ((k:Int)<40),by simp(disch:=first|omega|(simp only[lenB];omega))only[evB,xBDc,Nat.reduceAdd,Nat.reduceBEq,Int.reduceToNat, *],by simp;omega⟩
 ·rintro k S H2 hk ⟨hx2,w,b,⟨hb,ho⟩,z,rfl⟩
  clear hg1 hx1
  have hg2:=hx2.get hgb
  have hl2:=hx2.1
  have hgl2:=Heap.get_lt hg2
  have hlen:=unitL_len p n k
  have hstep:unitL p n (k+1)=unitL p n k++match unitR p n k with
   | some t=>[⟨k,-1,-1,cst0,t⟩]
   | none=>[]:=by rw[←hcst.resolve_left id];rfl
  rw[hstep]
  clear hstep
  generalize unitL p n k=L at ho hlen ⊢
  (try simp only[ctlB])
  repeat' ((first|refine xSDg ?_|refine xODg rfl ?_);(try simp only[ctlB]))
  change wpS cp lo _ _ _ (H2++[some [encN (n.i+1),encN n.m,encN ph',encN 0,.bool false]])
  have hxc:Ext H2 (H2++[some [encN (n.i+1),encN n.m,encN ph',encN 0,.bool false]]):=Ext.app _ _
  have hgc:(H2++[some [encN (n.i+1),encN n.m,encN ph',encN 0,.bool false]]).get H2.length=some [encN (n.i+1),encN n.m,encN ph',encN 0,.bool false]:=get_app0
  generalize H2++[some [encN (n.i+1),encN n.m,encN ph',encN 0,.bool false]]=H3 at hxc hgc
  have hl3:=hxc.1
  refine xHDg ?_
  refine wpH_call0 (plRP (lo:=lo) (k:=k) hk (by omega)) ?_
  rintro r H4 ⟨rfl,hx4⟩
  have hl4:=hx4.1
  have hgc4:=hx4.get hgc
  have hg4:=(hxc.trans hx4).get hg2
  have hcm:chrR n k=if n.m=3 then xchr k else if chrS (n.m==2) n.s k=128 then 256 else chrS (n.m==2) n.s k+if n.u then 128 else 0:=rfl
  have hcrl:=chrR_lt (n:=n) hk
  (try simp only[ctlB])
  repeat' ((first|refine xSDg ?_|refine xODg rfl ?_);(try simp only[ctlB]))
  refine aw_midX (fun S' H'=>Ext H4 H'∧∃q:Int,((False∨q=if n.m=3 then(xchr k:Int) else if chrS (n.m==2) n.s k=128 then -1 else(chrS (n.m==2) n.s k:Int))∧-1≤q∧q≤1000)∧∃(z:Nat→Value),S'=[.slice ad p.length c,z 1,ptr H.length,z 3,w,encN cst0,encN ph',.int .i64 (k:Nat),ptr H2.length,.int .i64 q,z 10,z 11,z 12,z 13,z 14,z 15,z 16,z 17,z 18,z 19]) ?_ ?_
  ·by_cases hm3:n.m=3
   ·have hd:decide ((n.m:Int)=3)=true:=decide_eq_true (by omega)
    have hxl:=xchr_le (k:=k) hk
    rw[if_pos hm3]
    replace hm3:n.m≤3∧3≤n.m:=by omega
    refine xCDg (fun h=>?_) (fun h=>?_)
    ·exfalso;simp at h;omega
    ·clear h hd
     (try simp only[ctlB])
     exact⟨Ext.refl _,(xchr k:Int),⟨.inr rfl,by omega,by omega⟩,exZDe rfl⟩
   ·have hd:decide ((n.m:Int)=3)=false:=decide_eq_false (by omega)
    have hcl:=chrS_le (b:=n.m==2) (s:=n.s) (k:=k) hk
    rw[if_neg hm3]
    refine xCDg (fun h=>?_) (fun h=>?_)
    ·clear h hd
     (try simp only[ctlB])
     refine xHDg ?_
     refine wpH_call0 (leRP (lo:=lo) (m:=n.m) (s:=n.s) (k:=k) (by omega) (by omega) hk (by omega)) ?_
     rintro r H5 ⟨rfl,hx5⟩
     generalize chrS (n.m==2) n.s k=y at hcl
     (try simp only[ctlB])
     repeat' ((first|refine xSDg ?_|refine xODg rfl ?_);(try simp only[ctlB]))
     exact⟨hx5,_,⟨.inr rfl,by split<;>omega,by split<;>omega⟩,exZDe rfl⟩
    ·exfalso;simp at h;omega
  rintro S' H5 ⟨hx5,q,⟨hq,hq1,hq2⟩,z,rfl⟩
  have hl5:=hx5.1
  have hg5:=hx5.get hg4
  have hgc5:=hx5.get hgc4
  (try simp only[ctlB])
  repeat' ((first|refine xSDg ?_|refine xODg rfl ?_);(try simp only[ctlB]))
  refine aw_midX (fun S' H'=>H5=H'∧∃q2:Int,((False∨q2=if chrR n k=256 then -1 else(chrR n k:Int))∧-1≤q2∧q2≤1000)∧∃(z:Nat→Value),S'=[.slice ad p.length c,z 1,ptr H.length,z 3,w,encN cst0,encN ph',.int .i64 (k:Nat),ptr H2.length,.int .i64 q2,z 10,z 11,z 12,z 13,z 14,z 15,z 16,z 17,z 18,z 19]) ?_ ?_
  ·have h38:=h7
   rw[hcm]
   have hxl:=xchr_le (k:=k) hk
   have hcl:=chrS_le (b:=n.m==2) (s:=n.s) (k:=k) hk
   generalize chrS (n.m==2) n.s k=y at hq hcl
   generalize xchr k=xv at hq hxl
   cases hu:n.u with
   | true=>
    rw[hu]at h38 hg5
    have hm3:¬ n.m=3:=fun e=>by have:=(h38 (by omega)).2;cases this
    rw[if_neg hm3]at hq ⊢
    clear hcm
    by_cases hy:y=128
    ·rw[if_pos hy]at hq ⊢
     have hqe:=hq.resolve_left id
     subst hqe
     refine xCDg (fun h=>?_) (fun h=>?_)
     ·exfalso;cases h
     ·clear h
      (try simp only[ctlB])
      exact⟨by trivial,-1,⟨.inr rfl,by omega,by omega⟩,exZDe rfl⟩
    ·rw[if_neg hy]at hq ⊢
     have hqe:=hq.resolve_left id
     subst hqe
     have hd:decide ((y:Int)≥0)=true:=decide_eq_true (by omega)
     have hd2:decide ((0:Int)≤(y:Nat))=true:=decide_eq_true (by omega)
     refine xCDg (fun h=>?_) (fun h=>?_)
     ·clear h hd hd2
      (try simp only[ctlB])
      repeat' ((first|refine xSDg ?_|refine xODg rfl ?_);(try simp only[ctlB]))
      exact⟨by trivial,(y:Int)+128,⟨.inr (by rw[if_neg (by omega)];rfl),by omega,by omega⟩,exZDe (by first|rfl|(simp only[Int.natCast_add,Int.natCast_one];rfl)|simp only[Int.natCast_add,Int.natCast_one])⟩
     ·exfalso;first|(simp at h;done)|cases h
   | false=>
    rw[hu]at hg5
    clear hcm
    refine xCDg (fun h=>?_) (fun h=>?_)
    ·cases h
    ·clear h
     (try simp only[ctlB])
     refine⟨by trivial,q,⟨.inr ?_,by omega,by omega⟩,exZDe rfl⟩
     rw[hq.resolve_left id]
     by_cases hm3:n.m=3
     ·rw[if_pos hm3,if_pos hm3,if_neg (by omega)]
     ·rw[if_neg hm3,if_neg hm3]
      by_cases hy:y=128
      ·rw[if_pos hy,if_pos hy];rfl
      ·rw[if_neg hy,if_neg hy]
       simp only[Bool.false_eq_true,if_false,Nat.add_zero]
       rw[if_neg (by omega)]
  rintro S' H6 ⟨rfl,q2,⟨hq',hq1',hq2'⟩,z,rfl⟩
  clear hq hcm
  rw[aw_seq]
  refine aw_midX (fun S' H'=>H5=H'∧∃f:Bool,(False∨(f=true↔n.i<p.length∧by' p n.i=chrR n k))∧∃(z:Nat→Value),S'=[.slice ad p.length c,z 1,ptr H.length,z 3,w,encN cst0,encN ph',.int .i64 (k:Nat),ptr H2.length,z 9,.bool f,z 11,z 12,z 13,z 14,z 15,z 16,z 17,z 18,z 19]) ?_ ?_
  ·by_cases hil:n.i<p.length
   ·have hd:decide ((n.i:Int)<(p.length:Nat))=true:=decide_eq_true (by omega)
    obtain⟨bb,oo,xs,hia,hgx,hxx⟩:=sl_at (hv.mono (hxb.trans (hx2.trans (hxc.trans (hx4.trans hx5))))) hil
    have hby:=(p.getD n.i 0).toNat_lt
    replace hxx:xs[oo]?=some (.int .u8 ((p.getD n.i 0).toNat:Nat)):=hxx
    have hbe:by' p n.i=(p.getD n.i 0).toNat:=rfl
    rw[hbe]
    clear hbe
    generalize (p.getD n.i 0).toNat=y at hxx hby
    generalize chrR n k=cc at hcrl hq' ⊢
    by_cases hc256:cc=256
    ·rw[if_pos hc256]at hq'
     have hqe:=hq'.resolve_left id
     subst hqe
     clear hq'
     repeat' ((first|refine xSDg ?_|refine xODg rfl ?_);(try simp only[ctlB]))
     exact⟨by trivial,false,.inr (by simp;omega),exZDe rfl⟩
    ·rw[if_neg hc256]at hq'
     have hqe:=hq'.resolve_left id
     subst hqe
     clear hq'
     have hd1:decide ((cc:Int)≥0)=true:=decide_eq_true (by omega)
     have hd2:decide ((0:Int)≤(cc:Nat))=true:=decide_eq_true (by omega)
     repeat' ((first|refine xSDg ?_|refine xODg rfl ?_);(try simp only[ctlB]))
     exact⟨by trivial,decide ((y:Int)=(cc:Nat)),.inr (by simp only[decide_eq_true_eq];omega),exZDe rfl⟩
   ·have hd:decide ((n.i:Int)<(p.length:Nat))=false:=decide_eq_false (by omega)
    by_cases hq0:q2≥0
    ·have hd1:decide (q2≥0)=true:=decide_eq_true hq0
     have hd2:decide (0≤q2)=true:=decide_eq_true hq0
     repeat' ((first|refine xSDg ?_|refine xODg rfl ?_);(try simp only[ctlB]))
     exact⟨by trivial,false,.inr (by simp;omega),exZDe rfl⟩
    ·have hd1:decide (q2≥0)=false:=decide_eq_false hq0
     have hd2:decide (0≤q2)=false:=decide_eq_false hq0
     repeat' ((first|refine xSDg ?_|refine xODg rfl ?_);(try simp only[ctlB]))
     exact⟨by trivial,false,.inr (by simp;omega),exZDe rfl⟩
  rintro S' H6 ⟨rfl,f,hf,z,rfl⟩
  clear hq' hq1' hq2'
  have hU:False∨unitR p n k=if n.m≠3∧n.s=0∧k<3 then some ⟨n.i,n.m,ph',k+1,n.u⟩ else if n.m≠3∧n.s=2∧k=30∧n.u=false then some ⟨n.i,n.m,ph',0,true⟩ else if n.i<p.length∧by' p n.i=chrR n k then some ⟨n.i+1,n.m,ph',0,false⟩ else none:=.inr (by unfold unitR;rw[hph.resolve_left id])
  have hdm:Keep H2.length H5 H5:=Ext.keep (Ext.refl _)
  have hlb5:=Heap.get_lt hgc5
  have hx5b:=hx2.trans (hxc.trans (hx4.trans hx5))
  have hx5k:=hx5
  clear hx5 hgc4 hg4 hl3 hl4
  refine aw_midX (fun S' H'=>(Keep H2.length H5 H'∧∃(f':Bool) (t:RN),(H'.get H2.length=some (rnC t)∧(False∨((n.m≠3∧n.s=0∧k<3)∧f'=true∧t=⟨n.i,n.m,ph',k+1,n.u⟩)∨(¬ (n.m≠3∧n.s=0∧k<3)∧f'=f∧t=⟨n.i+1,n.m,ph',0,false⟩)))∧∃z:Nat→Value,S'=[.slice ad p.length c,z 1,ptr H.length,z 3,w,encN cst0,encN ph',.int .i64 (k:Nat),ptr H2.length,z 9,.bool f',z 11,z 12,z 13,z 14,z 15,z 16,z 17,z 18,z 19])) ?_ ?_
  ·by_cases hc:n.m≠3∧n.s=0∧k<3
   ·obtain⟨c1,c2,c3⟩:=hc
    have hd:decide ((n.m:Int)=3)=false:=decide_eq_false (by omega)
    have hd2:decide ((n.s:Int)=0)=true:=decide_eq_true (by omega)
    have hd4:decide ((k:Int)<3)=true:=decide_eq_true (by omega)
    have c2':n.s≤0:=by omega
    have hmk:(n.m≠3∧n.s=0∧k<3):=⟨c1,c2,c3⟩
    clear c2
    replace hmk:False∨_:=.inr hmk
    refine xCDg (fun h=>?_) (fun h=>?_)
    ·clear h
     (try simp only[ctlB])
     repeat' ((first|refine xSDg ?_|refine xODg rfl ?_);(try simp only[ctlB]))
     exact⟨keepSet,true,_,⟨get_set_self hlb5,.inr (.inl ⟨hmk.resolve_left id,rfl,rfl⟩)⟩,exZDe rfl⟩
    ·exfalso;first|(simp at h;done)|(simp at h;omega)|cases h
   ·have hcc:((!decide ((n.m:Int)=3)&&decide ((n.s:Int)=0))&&decide ((k:Int)<3))=false:=by
     by_cases c1:n.m=3
     ·rw[decide_eq_true (by omega)];rfl
     ·by_cases c2:n.s=0
      ·rw[decide_eq_false (by omega:¬ (k:Int)<3)];simp
      ·rw[decide_eq_false (by omega:¬ (n.s:Int)=0)];simp
    have hcc2:((decide ((n.m:Int)≠3)&&decide ((n.s:Int)=0))&&decide ((k:Int)<3))=false:=by
     rw[←hcc];simp
    replace hc:False∨_:=.inr hc
    refine xCDg (fun h=>?_) (fun h=>?_)
    ·exfalso;first|(rw[hcc]at h;cases h)|(rw[hcc2]at h;cases h)|(simp at h;done)|cases h
    clear h
    (try simp only[ctlB])
    exact⟨hdm,f,⟨n.i+1,n.m,ph',0,false⟩,⟨hgc5,.inr (.inr ⟨hc.resolve_left id,rfl,rfl⟩)⟩,exZDe rfl⟩
  rintro S' H6 ⟨hk6,f',t,⟨hgt,hft⟩,z,rfl⟩
  have hl6:=hk6.len
  have hg6:=hk6.get hg5 (by omega)
  have hlb6:=Heap.get_lt hgt
  clear hgc5 hg5
  (try simp only[ctlB])
  refine aw_midX (fun S' H'=>(Keep H2.length H5 H'∧∃(f:Bool) (t:RN),(H'.get H2.length=some (rnC t)∧(False∨(f=true∧unitR p n k=some t)∨(f=false∧unitR p n k=none)))∧∃(z:Nat→Value),S'=[.slice ad p.length c,z 1,ptr H.length,z 3,w,encN cst0,encN ph',.int .i64 (k:Nat),ptr H2.length,z 9,.bool f,z 11,z 12,z 13,z 14,z 15,z 16,z 17,z 18,z 19])) ?_ ?_
  ·by_cases hc:n.m≠3∧n.s=2∧k=30∧n.u=false
   ·have hU1:=hU.resolve_left id
    rw[if_neg (fun h=>by omega),if_pos hc]at hU1
    clear hU hft
    replace hU1:False∨_:=.inr hU1
    obtain⟨c0,c1,c2,c3⟩:=hc
    rw[c3]at hg6
    have hd:decide ((n.m:Int)=3)=false:=decide_eq_false (by omega)
    have hd3:decide ((n.s:Int)=2)=true:=decide_eq_true (by omega)
    have hd4:decide ((k:Int)=30)=true:=decide_eq_true (by omega)
    replace c1:n.s≤2∧2≤n.s:=by omega
    replace c2:k≤30∧30≤k:=by omega
    replace c3:False∨_:=.inr c3
    refine xCDg (fun h=>?_) (fun h=>?_)
    ·clear h
     (try simp only[ctlB])
     repeat' ((first|refine xSDg ?_|refine xODg rfl ?_);(try simp only[ctlB]))
     exact⟨keepTrans hk6 (.inl rfl) keepSet,true,⟨n.i,n.m,ph',0,true⟩,⟨get_set_self hlb6,.inr (.inl ⟨rfl,hU1.resolve_left id⟩)⟩,exZDe (by first|rfl|(simp only[Int.natCast_add,Int.natCast_one];rfl)|simp only[Int.natCast_add,Int.natCast_one])⟩
    ·exfalso;first|(simp at h;done)|(simp at h;omega)|cases h
   ·have hfin:f'=true∧unitR p n k=some t∨f'=false∧unitR p n k=none:=by
     have hU1:=hU.resolve_left id
     rcases hft.resolve_left id with ⟨k1,k2,k3⟩|⟨k1,k2,k3⟩
     ·rw[if_pos k1]at hU1
      exact .inl ⟨k2,by rw[hU1,k3]⟩
     ·rw[if_neg k1,if_neg hc]at hU1
      rw[k2,k3,hU1]
      cases hfv:f with
      | true=>exact .inl ⟨rfl,if_pos ((hf.resolve_left id).1 hfv)⟩
      | false=>exact .inr ⟨rfl,if_neg (fun h=>by have:=(hf.resolve_left id).2 h;rw[hfv]at this;cases this)⟩
    replace hfin:False∨_:=.inr hfin
    have hcc:(((!decide ((n.m:Int)=3)&&decide ((n.s:Int)=2))&&decide ((k:Int)=30))&&!n.u)=false:=by
     by_cases c1:n.m=3
     ·rw[decide_eq_true (by omega:(n.m:Int)=3)];rfl
     ·by_cases c2:n.s=2
      ·by_cases c3:k=30
       ·cases hu:n.u with
        | true=>simp
        | false=>exact absurd ⟨c1,c2,c3,hu⟩ hc
       ·rw[decide_eq_false (by omega:¬ (k:Int)=30)];simp
      ·rw[decide_eq_false (by omega:¬ (n.s:Int)=2)];simp
    have hcc2:(((decide ((n.m:Int)≠3)&&decide ((n.s:Int)=2))&&decide ((k:Int)=30))&&!n.u)=false:=by
     rw[←hcc];simp
    clear hU hft hf hc
    refine xCDg (fun h=>?_) (fun h=>?_)
    ·exfalso;first|(rw[hcc]at h;cases h)|(rw[hcc2]at h;cases h)|(simp at h;done)|cases h
    clear h
    (try simp only[ctlB])
    exact⟨hk6,f',t,⟨hgt,hfin⟩,exZDe (by first|rfl|(simp only[Int.natCast_add,Int.natCast_one];rfl)|simp only[Int.natCast_add,Int.natCast_one])⟩
  rintro S' H7 ⟨hk7,f2,t2,⟨hgt2,hft2⟩,z,rfl⟩
  have hx7:=hk7.ext hx5b hl2
  have hl7:=hk7.len
  have hg7:H7.get H.length=some [encN n.i,encN n.m,encN n.ph,encN n.s,.bool n.u]:=hx7.get hgb
  have ho7:OwnG lo 9 H7 w b (cat rsC L):=ho.over (hxc.trans (hx4.trans hx5k)) hk7 (Nat.le_refl _)
  clear hg6 hgt hft hU hf hk6 hl6 hlb6
  rcases hft2.resolve_left id with ⟨rfl,hu⟩|⟨rfl,hu⟩
  ·rw[hu]
   (try simp only[ctlB])
   refine xCDg (fun h=>?_) (fun h=>?_)
   ·clear h
    (try simp only[ctlB])
    repeat' ((first|refine xSDg ?_|refine xODg rfl ?_);(try simp only[ctlB]))
    change wpS cp lo _ _ _ (H7++[some (rsC ⟨k,-1,-1,cst0,t2⟩)])
    refine xHDg ?_
    refine stApp (o:=⟨k,-1,-1,cst0,t2⟩) ho7 (by omega) (by omega) ?_
    intro w8 H8 hap
    have hx8:=hap.ext hx7 hb
    obtain⟨b8,k1,k2,k3,k4⟩:=hap
    (try simp only[ctlB])
    repeat' ((first|refine xSDg ?_|refine xODg rfl ?_);(try simp only[ctlB]))
    exact⟨hx8,w8,b8,⟨by omega,k3⟩,exZDe (by first|rfl|(simp only[Int.natCast_add,Int.natCast_one];rfl)|simp only[Int.natCast_add,Int.natCast_one])⟩
   ·cases h
  ·rw[hu]
   (try simp only[ctlB])
   refine xCDg (fun h=>?_) (fun h=>?_)
   ·cases h
   ·clear h
    (try simp only[ctlB])
    repeat' ((first|refine xSDg ?_|refine xODg rfl ?_);(try simp only[ctlB]))
    exact⟨hx7,w,b,⟨hb,by rw[List.append_nil];exact ho7⟩,exZDe (by first|rfl|(simp only[Int.natCast_add,Int.natCast_one];rfl)|simp only[Int.natCast_add,Int.natCast_one])⟩
 ·rintro S H2 ⟨hx2,w,b,⟨hb,ho⟩,z,rfl⟩
  (try simp only[ctlB])
  repeat' ((first|refine xSDg ?_|refine xODg rfl ?_);(try simp only[ctlB]))
  refine xRDg ?_
  exact⟨hxb.trans hx2,b,by omega,ho⟩
end
end Go.Proofs.Ythnflhimcmdnbaa
