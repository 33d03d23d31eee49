/- Netpbm: lists of bytes; the examples of the chapter (a closed call). Netpbm: sizes, formats, white space. -/
import Derived.Test.YtpbiaeiebhgmgaaDoorJ9
import Derived.Test.YtpbiaeiebhgmgaaDoorJ10
set_option linter.unusedVariables false
set_option linter.unusedSimpArgs false
set_option linter.unusedSectionVars false
namespace Go.Proofs.YtpbiaeiebhgmgaaDoor
open Go.Abs
set_option linter.unusedSimpArgs false
set_option linter.unusedVariables false
set_option maxRecDepth 100000
def cpC(f:FuncId):Option CF:=if f=63∨f=73∨f=74∨f=96 then none else cp f
theorem cpC_sub:Sub cpC cp:=by
 intro f cf h
 unfold cpC at h
 split at h
 ·cases h
 ·exact h
theorem cpC_plain:∀f cf,cpC f=some cf→plainCF cf=true:=by
 intro f cf h
 unfold cpC at h
 split at h
 ·cases h
 ·rename_i hne
  unfold cp at h
  split at h
  all_goals first|(simp at h;done)|(first|unfold cp0x at h|unfold cp1x at h|unfold cp2x at h|unfold cp3x at h|unfold cp4x at h|unfold cp5x at h|unfold cp6x at h)
  all_goals split at h
  all_goals first|(exfalso;apply hne;decide)|(cases h;kernel_rfl)|(simp at h;done)
theorem exEv{lo:Nat}{H:Heap}(hlo:lo≤H.length):Ev cp lo 9 [] H (fun v H'=>v=.bool true∧Ext H H'):=
 Ev.sub cpC_sub (ev_closed cpC_plain (n:=40) (v:=.bool true) rfl (by kernel_rfl) rfl hlo)
abbrev encU(b:UInt8):Value:=.int .u8 (b.toNat:Nat)
abbrev SlU:=Sl encU
abbrev strV(l:List UInt8):Value:=.string ⟨l.toArray⟩
abbrev uL(l:List UInt8):List Value:=l.map encU
end Go.Proofs.YtpbiaeiebhgmgaaDoor
namespace Go.Proofs.YtpbiaeiebhgmgaaDoor
open Go.Abs
set_option linter.unusedSimpArgs false
set_option linter.unusedVariables false
set_option maxRecDepth 20000
section
variable {lo:Nat}{H:Heap}
def posB(w h:Int):Bool:=decide (1≤w)&&decide (w≤4096)&&decide (1≤h)&&decide (h≤4096)&&decide (w*h≤4194304)
theorem posB_iff{w h:Int}:posB w h=true↔1≤w∧w≤4096∧1≤h∧h≤4096∧w*h≤4194304:=by
 simp[posB,and_assoc]
theorem mul_in{w h:Int}(h1:1≤w)(h2:w≤4096)(h3:1≤h)(h4:h≤4096):0≤w*h∧w*h≤16777216:=by
 have a:=Int.mul_le_mul h2 h4 (by omega) (by omega)
 have b:=Int.mul_nonneg (a:=w) (b:=h) (by omega) (by omega)
 omega
theorem posB_wrap(w h:Int):(decide (1≤w)&&decide (w≤4096)&&decide (1≤h)&&decide (h≤4096)&&decide (IntKind.i64.wrap (w*h)≤4194304))=posB w h:=by
 unfold posB
 cases hb:(decide (1≤w)&&decide (w≤4096)&&decide (1≤h)&&decide (h≤4096))with
 | false=>simp
 | true=>
  simp only[Bool.and_eq_true,decide_eq_true_eq]at hb
  have:=mul_in hb.1.1.1 hb.1.1.2 hb.1.2 hb.2
  have hbig:w*h≤9223372036854775807:=by omega
  rw[wrap_i64 (by omega) (by omega)]
set_option linter.defProp false in
def xBNb:=And.intro @Int.cast_ofNat_Int @ite_self.{1}
theorem xENb{P:Prop}(h:P:=by simp(disch:=first|omega|(simp only[lenB];omega))only[evB,xBNb,Nat.reduceAdd,Nat.reduceBEq, *];rfl):P:=h
theorem xSNb{cp:FuncId→Option CF}{lo:Nat}{l:List (Nat×E)}{chk:List E}{Q:Post}{S:List Value}{H:Heap}{vs:List (Nat×Value)}{S':List Value}(k:Q .normal S' H)(h:evSets S H l=some vs:=by exact xENb)(hc:evChk S H chk=true:=by simp(disch:=first|omega|(simp only[lenB];omega))only[evB,xBNb,Nat.reduceAdd,Nat.reduceBEq, *])(hS:setAll S vs=S':=by exact xENb):wpS cp lo (.sets l chk) Q S H:=aw_sets h hc hS k
theorem xHNb{cp:FuncId→Option CF}{lo:Nat}{l:List (Nat×E)}{chk:List E}{Q:Post}{S:List Value}{H:Heap}{vs:List (Nat×Value)}{dst:Option Nat}{o:HOp}{a:E}{xs:List Value}(k:wpH cp lo o xs H fun v H'=>Q .normal (setD (setAll S vs) dst v) H')(h:evSets S H l=some vs:=by exact xENb)(hc:evChk S H chk=true:=by simp(disch:=first|omega|(simp only[lenB];omega))only[evB,xBNb,Nat.reduceAdd,Nat.reduceBEq, *])(ha:ev S H a=some xs:=by exact xENb):wpS cp lo (.hv l chk [] dst o a) Q S H:=aw_hv h hc ha k
theorem xONb{cp:FuncId→Option CF}{lo:Nat}{l:List (Nat×E)}{chk:List E}{Q:Post}{S:List Value}{H:Heap}{vs:List (Nat×Value)}{dst:Option Nat}{o:HOp}{a:E}{xs:List Value}{S':List Value}{H':Heap}{v:Value}(hcall:o.isCall=false)(k:Q .normal S' H')(h:evSets S H l=some vs:=by exact xENb)(hc:evChk S H chk=true:=by simp(disch:=first|omega|(simp only[lenB];omega))only[evB,xBNb,Nat.reduceAdd,Nat.reduceBEq, *])(ha:ev S H a=some xs:=by exact xENb)(ho:hsem0 lo o xs H=some (v,H'):=by exact xENb)(hS:setD (setAll S vs) dst v=S':=by exact xENb):wpS cp lo (.hv l chk [] dst o a) Q S H:=aw_op hcall h hc ha ho hS k
theorem xCNb{cp:FuncId→Option CF}{lo:Nat}{c:E}{a b:Stm}{Q:Post}{S:List Value}{H:Heap}{t:Bool}(k1:t=true→wpS cp lo a Q S H)(k2:t=false→wpS cp lo b Q S H)(h:ev1 S H c=some (.bool t):=by exact xENb):wpS cp lo (.cond c a b) Q S H:=aw_cond h k1 k2
theorem xRNb{cf:CF}{R:Value→Heap→Prop}{S:List Value}{H:Heap}{vs:List Value}(k:R (resultOf vs) H)(h:evList S H cf.res=some vs:=by exact xENb):bodyQ cf R .ret S H:=body_ret h k
theorem possP{w h:Int}:Ev cp lo 35 [.int .i64 w,.int .i64 h] H (fun v H'=>H=H'∧v=.bool (posB w h)):=by
 refine st35 ?_;unfold bd35 cf35;simp only[kB,ctlB]
 repeat' ((first|refine xSNb ?_|refine xONb rfl ?_);(try simp only[ctlB]))
 refine xRNb ?_
 exact⟨rfl,by rw[posB_wrap];rfl⟩
def wsB(c:UInt8):Bool:=decide ((c.toNat:Int)=32) || decide ((c.toNat:Int)=9) || decide ((c.toNat:Int)=10) || decide ((c.toNat:Int)=13)
theorem whiteP{c:UInt8}:Ev cp lo 32 [encU c] H (fun v H'=>H=H'∧v=.bool (wsB c)):=by
 refine st32 ?_;unfold bd32 cf32;simp only[kB,ctlB]
 repeat' ((first|refine xSNb ?_|refine xONb rfl ?_);(try simp only[ctlB]))
 refine xRNb ?_
 exact⟨rfl,rfl⟩
def kindV(f:Int)(g r:Bool)(ok:Bool):Value:=.tuple #[.agg #[.int .i64 f,.bool g,.bool r],.bool ok]
theorem fmtP{c:UInt8}(hlo:lo≤H.length):Ev cp lo 20 [encU c] H (fun v H'=>Ext H H'∧v=(if (c.toNat:Int)=49 then kindV 1 false false true else if (c.toNat:Int)=50 then kindV 2 true false true else if (c.toNat:Int)=52 then kindV 4 false true true else if (c.toNat:Int)=53 then kindV 5 true true true else kindV 0 false false false)):=by
 refine st20 ?_;unfold bd20 cf20;simp only[kB,ctlB]
 repeat' ((first|refine xSNb ?_|refine xONb rfl ?_);(try simp only[ctlB]))
 refine xCNb (fun h=>?_) (fun h=>?_)
 ·(try simp only[ctlB])
  repeat' ((first|refine xSNb ?_|refine xONb rfl ?_);(try simp only[ctlB]))
  refine xRNb ?_
  simp only[decide_eq_true_eq]at h
  exact⟨Ext.app _ _,by rw[if_pos h];rfl⟩
 simp only[decide_eq_false_iff_not]at h
 rw[if_neg h]
 (try simp only[ctlB])
 refine xCNb (fun h=>?_) (fun h=>?_)
 ·(try simp only[ctlB])
  repeat' ((first|refine xSNb ?_|refine xONb rfl ?_);(try simp only[ctlB]))
  refine xRNb ?_
  simp only[decide_eq_true_eq]at h
  exact⟨Ext.app _ _,by rw[if_pos h];rfl⟩
 simp only[decide_eq_false_iff_not]at h
 rw[if_neg h]
 (try simp only[ctlB])
 refine xCNb (fun h=>?_) (fun h=>?_)
 ·(try simp only[ctlB])
  repeat' ((first|refine xSNb ?_|refine xONb rfl ?_);(try simp only[ctlB]))
  refine xRNb ?_
  simp only[decide_eq_true_eq]at h
  exact⟨Ext.app _ _,by rw[if_pos h];rfl⟩
 simp only[decide_eq_false_iff_not]at h
 rw[if_neg h]
 (try simp only[ctlB])
 refine xCNb (fun h=>?_) (fun h=>?_)
 ·(try simp only[ctlB])
  repeat' ((first|refine xSNb ?_|refine xONb rfl ?_);(try simp only[ctlB]))
  refine xRNb ?_
  simp only[decide_eq_true_eq]at h
  exact⟨Ext.app _ _,by rw[if_pos h];rfl⟩
 simp only[decide_eq_false_iff_not]at h
 rw[if_neg h]
 (try simp only[ctlB])
 repeat' ((first|refine xSNb ?_|refine xONb rfl ?_);(try simp only[ctlB]))
 refine xRNb ?_
 exact⟨Ext.app _ _,rfl⟩
def valB(w h:Int)(n:Nat):Bool:=posB w h&&decide ((n:Int)=w*h)
theorem ckP{w hh:Int}{v:Value}{l:List UInt8}(hl:SlU H v l):Ev cp lo 19 [.agg #[.int .i64 w,.int .i64 hh,v]] H (fun r H'=>Ext H H'∧r=.int .i64 (if valB w hh l.length then 0 else 1)):=by
 obtain⟨ad,c,rfl⟩:=hl.len
 have hx:∀a:List Value,Ext H (H++[some a]):=fun a=>Ext.app H [some a]
 refine st19 ?_;unfold bd19 cf19;simp only[kB,ctlB]
 repeat' ((first|refine xSNb ?_|refine xONb rfl ?_);(try simp only[ctlB]))
 refine xHNb ?_
 refine wpH_call0 possP ?_
 rintro r H1 ⟨rfl,rfl⟩
 (try simp only[ctlB])
 cases hb:posB w hh with
 | false=>
  refine xCNb (fun h=>?_) (fun h=>?_)
  ·(try simp only[ctlB])
   repeat' ((first|refine xSNb ?_|refine xONb rfl ?_);(try simp only[ctlB]))
   refine xRNb ?_
   exact⟨hx _,by simp[valB,hb];rfl⟩
  ·simp at h
 | true=>
  obtain⟨h1,h2,h3,h4,h5⟩:=posB_iff.1 hb
  have hm:=mul_in h1 h2 h3 h4
  refine xCNb (fun h=>?_) (fun h=>?_)
  ·simp only[Bool.not_true,Bool.false_or,decide_eq_true_eq]at h
   (try simp only[ctlB])
   repeat' ((first|refine xSNb ?_|refine xONb rfl ?_);(try simp only[ctlB]))
   refine xRNb ?_
   exact⟨hx _,by simp only[valB,hb,Bool.true_and,decide_eq_true_eq,if_neg h];rfl⟩
  ·simp only[Bool.not_true,Bool.false_or,decide_eq_false_iff_not,ne_eq,Decidable.not_not]at h
   have hv:valB w hh l.length=true:=by simp only[valB,hb,Bool.true_and,decide_eq_true_eq];exact h
   (try simp only[ctlB])
   repeat' ((first|refine xSNb ?_|refine xONb rfl ?_);(try simp only[ctlB]))
   refine xRNb ?_
   exact⟨hx _,by rw[if_pos hv];rfl⟩
end
end Go.Proofs.YtpbiaeiebhgmgaaDoor
