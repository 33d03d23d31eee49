/- Lemmas. -/
import Derived.Test.YtmnlgdpdgjbfgaaGreatL26
import Derived.Test.YtmnlgdpdgjbfgaaGreatL27
set_option linter.all false
namespace Go.Proofs.YtmnlgdpdgjbfgaaGreat
open Go.Abs
set_option maxRecDepth 20000
section
variable {lo:Nat}{H:Heap}{v:Value}{l:List Int}
open XYe
end
abbrev wd(ws:List Nat)(i:Nat):Nat:=ws.getD i 0
def fG(lower:Bool)(set v:Nat):Nat:=
 if set=0/\v=3 then 32 else if set=0/\4<=v/\v<=13 then 44+v else if set=0/\14<=v then(if lower then 83+v else 51+v)
 else if set=1/\v<=31 then v else if set=2/\v<=14 then 33+v else if set=2/\v<=21 then 43+v else if set=2/\v<=26 then 69+v
 else if set=3/\v<=31 then(if lower=true/\1<=v/\v<=26 then 64+v else 96+v) else 128
def lL(v:Nat):Nat:=if 14<=v then 51+v else if 4<=v then 44+v else if v=0 then 13 else if v=1 then 42 else if v=2 then 62 else 32
abbrev uU(l:List UInt8):List Value:=l.map BN
structure DcM (A H:Heap)(db:Nat)(wv:Value)(ws:List Nat)(a:Nat)(out:List UInt8):Prop where
 ext:Ext A H
 w:SlN A wv ws
 g:∃ov b,(H.get db=some [wv,aA a,ov]/\b≠db)/\Own A.length 1 H ov b (uU out)
 dbA:A.length<=db
 len:ws.length<=8192
 byt:∀k,ws.getD k 0<=255
 le:a<=ws.length
 big:out.length<=20000
section
variable {A H:Heap}{db:Nat}{wv:Value}{ws:List Nat}{a:Nat}{out:List UInt8}{lo:Nat}
theorem DcM.mono{H':Heap}(h:DcM A H db wv ws a out)(e:Ext H H'):DcM A H' db wv ws a out:=by
 obtain⟨ov,b,⟨g1,g2⟩,g3⟩:=h.g;exact⟨h.ext.trans e,h.w,⟨ov,b,⟨e.get g1,g2⟩,g3.mono e⟩,h.dbA,h.len,h.byt,h.le,h.big⟩
theorem DcM.keep{H':Heap}{c n:Nat}{Y:List Value}(h:DcM A H db wv ws a out)(hc:c≠db)(hA:A.length<=c)(hX:H.get c=some (aA n::Y))(hk:Keep c H H'):DcM A H' db wv ws a out:=by
 obtain⟨ov,b,⟨g1,g2⟩,g3⟩:=h.g;refine⟨hk.ext h.ext hA,h.w,?_,h.dbA,h.len,h.byt,h.le,h.big⟩;obtain⟨h1,⟨h2,h3⟩|⟨m,h2,h3,h4,h5⟩⟩:=g3
 ·exact⟨ov,db+1,⟨hk.get g1 (fun e=>hc e.symm),byO⟩,by have:=h.dbA;omega,.inl ⟨h2,h3⟩⟩
 ·have hbc:b≠c:=by
   rintro rfl;rw[hX]at h5
   match out,h5 with
   | [],h5=>simp at h5
   | x::out,h5=>simp at h5
  exact⟨ov,b,⟨hk.get g1 (fun e=>hc e.symm),g2⟩,h1,.inr ⟨m,h2,h3,h4,hk.get h5 hbc⟩⟩
theorem DcM.move{ov:Value}{a':Nat}(h:DcM A H db wv ws a out)(hg:H.get db=some [wv,aA a,ov])(ha:a'<=ws.length):DcM A (List.set H db (some [wv,aA a',ov])) db wv ws a' out:=by
 obtain⟨ov',b,⟨g1,g2⟩,g3⟩:=h.g;rw[hg]at g1;cases g1;exact⟨keepSet.ext h.ext h.dbA,h.w,⟨ov,b,⟨aF (Heap.get_lt hg),g2⟩,g3.keep keepSet g2⟩,h.dbA,h.len,h.byt,ha,h.big⟩
theorem DcM.at{k:Nat}(h:DcM A H db wv ws a out)(hk:k<ws.length):∃b o xs,aH (.iAddr 1) [wv,.int .i64 (k:Nat)] H=some (.pointer (some ⟨b,o,none⟩))/\H.get b=some xs/\xs[o]?=some (aA (wd ws k)):=zD (h.w.mono h.ext) hk
open XYe
end
def u3(u:Nat×Nat×Nat):Nat->Nat
 | 0=>u.1
 | 1=>u.2.1
 | _=>u.2.2
theorem zY{b:Bool}{s k:Nat}(hk:k<40):fG b s k<=128:=by
 unfold fG;repeat' split
 all_goals omega
section
variable {A H:Heap}{db:Nat}{wv:Value}{ws:List Nat}{a:Nat}{out:List UInt8}{lo:Nat}
open XYe
end
theorem Ap{k:Nat}(hk:k<40):lL k<=127:=by
 unfold lL;repeat' split
 all_goals omega
section
variable {A H:Heap}{db:Nat}{wv:Value}{ws:List Nat}{a:Nat}{out:List UInt8}{lo:Nat}
open XYe
end
end Go.Proofs.YtmnlgdpdgjbfgaaGreat
