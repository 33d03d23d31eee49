/- Lemmas. -/
import Derived.Test.YtmnlgdpdgjbfgaaGreatW14
import Derived.Test.YtmnlgdpdgjbfgaaGreatW27
import Derived.Test.YtmnlgdpdgjbfgaaGreatW40
set_option linter.all false
namespace Go.Proofs.YtmnlgdpdgjbfgaaGreat
open Go.Abs Go.RS
set_option maxRecDepth 20000
open XMDc
theorem Iv{H:Heap}{v:Value}{p:List UInt8}{sq:Bool}(hp:SlU H v p):Ev cp H.length 7 [v,.bool sq] H (fun r _=>r=.bool true):=by
 have hp0:=hp;obtain⟨ad,c0,rfl⟩:=hp.len;refine stG rfl rfl ?_;unfold bd7;simp only[kB,aC];refine mf ?_;refine ye ?_ ?_<;>intro h
 ·clear h
  (try simp only[aC]);refine tF ?_;refine aA (Ab (Nat.le_refl _)) ?_;rintro r K ⟨hx,rfl⟩;refine mf ?_;refine KJ ?_;rfl
 have hl:p.length<=300:=by simp at h;omega
 clear h;(try simp only[aC]);refine tF ?_;refine aA (Ru (sq:=sq) hp0 hl (Nat.le_refl _)) ?_;rintro r H1 ⟨hx1,i,e,gf,q,hm,rfl,hq⟩;have hl1:=hx1.1;have hml:(mtB i e gf).length=((dz i).sz.r*(dz i).sz.c).toNat:=qC;have hsl:SlB H1 (.slice (some ⟨q,0,none⟩) ((dz i).sz.r*(dz i).sz.c).toNat ((dz i).sz.r*(dz i).sz.c).toNat) (mtB i e gf):=Sl.whole hq hml;have hdd:=fun(K:Heap) (h:Ext H1 K)=>Rl (lo:=H.length) (H:=K) hm (hsl.mono h) (by have:=h.1;omega);clear hml hq hsl hm;generalize (dz i).sz.c=sc at *;generalize (dz i).sz.r=sr at *;generalize (sr*sc).toNat=n at *;replace hdd:False\/_:=.inr hdd;refine mf ?_;have hE:=Ext.app H1 [some [Value.int .i64 sc,.int .i64 sr,.slice (some ⟨q,0,none⟩) n n]];have hx2:=hx1.trans hE;have hd2:=hdd.resolve_left id _ hE;refine tF ?_;refine aA hd2 ?_;rintro r H3 ⟨hx3,u,rfl,hu⟩;have hx13:=hx2.trans hx3;have hl3:=hx13.1;have hp3:=hp0.mono hx13;clear hdd hd2 hE hx2 hx3;have b1:=D8 hu;have b2:=D8 hp3;have b3:aI (.bin .eql) [DI p,DI p] H3=some (.bool true):=by rw[C7];simp
 have hlsem:∀(x:Value) (G:Heap) (K:Heap),aI .b2s [x] G=aI .b2s [x] G:=fun _ _ _=>rfl;clear hu hp3 hp0 hp hlsem;generalize DI p=sp at *;refine mf ?_;refine TV ?_;refine aA (Ab byO) ?_;rintro r K ⟨hx,rfl⟩;refine mf ?_;refine KJ ?_;rfl
end Go.Proofs.YtmnlgdpdgjbfgaaGreat
