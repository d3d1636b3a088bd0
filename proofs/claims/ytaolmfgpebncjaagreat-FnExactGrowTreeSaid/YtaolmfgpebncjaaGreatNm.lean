/- The head of a block that grows. -/
import Derived.Test.YtaolmfgpebncjaaGreatZzm
import Derived.Test.YtaolmfgpebncjaaGreatZzi
import Derived.Test.YtaolmfgpebncjaaGreatGj
import Derived.Test.YtaolmfgpebncjaaGreatGk
set_option maxRecDepth 100000
set_option maxHeartbeats 3200000
set_option linter.unusedSimpArgs false
set_option linter.unusedVariables false
namespace Go.Proofs.YtaolmfgpebncjaaGreat
open Go.Av
attribute [local irreducible] T thenQ Uv Y0 Uz WX retV retR Gt Gts GtsP Qs CV CR Av.Pure
attribute [local irreducible] sha
section
variable {P : Program} {ty : TypeId → Option TI} {n : Nat} {l : List Oper} {K : St → Prop} {tp : TypeId} {pos : String} {aft : Array Edge} {gd : Option (Nat × Bool)} {env : List (Nat × AV)} {bx bx0 : List (Nat × Option Box)} {nx : Nat} {t : TypeId} {x y : Operand} {v : AV}
theorem L_store1 (hty:TyOk P ty) {ti:TI} {id j:Nat} {w:AV} {sz:Nat} {sl ro:Bool} (ht:ty t = some ti) (hx:Gt env x (.ptr id 0 j)) (hB:box? bx id = some ⟨[w],sz,sl,ro⟩) (hj:j = 0) (hs:ti.size = sz) (hro:ro = false) (hy:Gt env y v) (hk:Qs ti.size v)
  (hn:box? bx0 id = none) (h:WL P n bx0 l ⟨env,(id,some ⟨[v],sz,sl,ro⟩)::bx,nx⟩ K):WL P n bx0 (⟨none,.store t x y,tp,pos,aft,gd⟩::l) ⟨env,bx,nx⟩ K:=by
 subst hj
 exact ⟨rfl,λ hS=>⟨.undef,_,_,AStep.mem hty (p:=0 < [w].length/\ro = false/\Qs ti.size v) (by simp [memStep,hx.get,hy.get,storeStep,ht,hB,hs]) ⟨by simp,hro,hk⟩,stay_cons hn hS,h⟩⟩
end
theorem zerosN_range {c:List Hd} (h0:0 < c.length) (hc:∀ x∈c,Jw x = 0):0<=zerosN c/\zerosN c<=40:=by
 have hm:c.getD (c.length - 1) Hd0∈c:=getD_mem c Hd0 (by omega)
 have hz:=(hd_zero (hc _ hm)).2.2.2.1
 unfold zerosN
 generalize c.getD (c.length - 1) Hd0 = x at *
 generalize c.getD (c.length - 5) Hd0 = y at *
 split
 ·exact hz
 ·split
  ·split<;>omega
  ·split
   ·split<;>omega
   ·exact hz
theorem join_zero {hs:List Hd} {x:Hd} (h:joinF hs x = 0):Yh (hs.map hdD) (hdD x) < 0/\0<=Yh (hs.map hdD) x.parent/\x.height = (hs.getD (Yh (hs.map hdD) x.parent).toNat Hd0).height + 1:=by
 unfold joinF at h
 split at h
 ·cases h
 ·split at h
  ·cases h
  ·split at h
   ·cases h
   ·rename_i a b c
    exact ⟨by omega,by omega,Classical.not_not.1 λ k=>c (.inl k)⟩
theorem tree_height {tr:List Blk} (h:Y1 tr = 0) (j:Nat):j < tr.length->((J2 tr).getD j Hd0).height<=j:=by
 induction j using Nat.strongRecOn with
 | _ j ih =>
   intro hj
   obtain ⟨_,_,h3,_⟩:=tree_zero h
   obtain ⟨_,_,_,q⟩:=stepT_zero (h3 j hj)
   rw [<-headsL_getD tr j hj] at q
   rcases q with ⟨q0,q1,_⟩|⟨q0,q1⟩
   ·unfold firstB at q1
    simp only [Bool.and_eq_true,decide_eq_true_eq] at q1
    omega
   ·obtain ⟨_,e1,e2⟩:=join_zero q1
    have hr:=place_range (((J2 tr).take j).map hdD) ((J2 tr).getD j Hd0).parent
    have hl:=headsL_length tr
    rw [List.length_map,List.length_take] at hr
    have hlt:(Yh (((J2 tr).take j).map hdD) ((J2 tr).getD j Hd0).parent).toNat < j:=by omega
    rw [getD_take (J2 tr) Hd0 hlt] at e2
    have:=ih _ hlt (by omega)
    omega
def U1 (tr:List Blk) (p:Nat) (time:Int) (ev:List (List UInt8)):Hd :=
 ⟨hdD ((J2 tr).getD p Hd0),((J2 tr).getD p Hd0).height + 1,time,zerosN (chainL (J2 tr) p),rootL ev,0⟩
theorem hdFault_ok {x:Hd} (h1:x.parent.length = 32) (h2:x.root.length = 32) (h3:0<=x.height/\x.height<=1000000) (h4:0<=x.time/\x.time<=1099511627776) (h5:0<=x.zeros/\x.zeros<=40) (h6:0<=x.nonce/\x.nonce<=2199023255552):Jw x = 0 :=
 hd_ok (by simp [rows32,h1,h2]) ⟨h3,h4,h5,h6⟩
theorem gw_fault {tr:List Blk} {p:Nat} {time:Int} {ev:List (List UInt8)} (h:Y1 tr = 0) (hp:p < tr.length) (ht:((J2 tr).getD p Hd0).time < time/\time<=1099511627776):Jw (U1 tr p time ev) = 0:=by
 obtain ⟨_,h2,_,hJ⟩:=tree_zero h
 have hl:=headsL_length tr
 have hm:(J2 tr).getD p Hd0∈J2 tr:=getD_mem _ Hd0 (by omega)
 obtain ⟨_,k1,k2,_,_⟩:=hd_zero (hJ.1 _ hm)
 have hh:=tree_height h p hp
 have hc:=zerosN_range (c:=chainL (J2 tr) p) (by rw [chainL_length];exact wayD_pos _ _) (chain_ok hJ (by omega))
 refine hdFault_ok (hdD_length _) (rootL_length _) ⟨?_,?_⟩ ⟨?_,?_⟩ hc ⟨?_,?_⟩
 ·show 0<=((J2 tr).getD p Hd0).height + 1;omega
 ·show ((J2 tr).getD p Hd0).height + 1<=1000000;omega
 ·show 0<=time;omega
 ·show time<=1099511627776;omega
 ·show (0:Int)<=0;decide
 ·show (0:Int)<=2199023255552;decide
theorem withN_fault {x:Hd} {n:Int} (h:Jw x = 0) (hn:0<=n/\n<=2199023255552):Jw (withN x n) = 0:=by
 obtain ⟨⟨a,b⟩,c,d,e,_⟩:=hd_zero h
 exact hdFault_ok a b c d e hn
def gwCode (tr:List Blk) (p time:Int) (ev:List (List UInt8)) (tries:Int):Int :=
 if Y1 tr≠0 then Y1 tr
 else if ¬ (0<=p/\p < (tr.length:Int)) then 3
 else if tr.length = 24∨fewB ev = false then 2
 else if ¬ (((J2 tr).getD p.toNat Hd0).time < time/\time<=1099511627776) then 1
 else if ¬ (0<=tries/\tries<=5000) then 3
 else if ¬ 0<=Y8 (U1 tr p.toNat time ev) tries then 4
 else if 0<=Yh ((J2 tr).map hdD) (hdD (withN (U1 tr p.toNat time ev) (Y8 (U1 tr p.toNat time ev) tries))) then 7 else 0
def gwOut (tr:List Blk) (p time:Int) (ev:List (List UInt8)) (tries:Int):Blk :=
 if gwCode tr p time ev tries = 0 then ⟨withN (U1 tr p.toNat time ev) (Y8 (U1 tr p.toNat time ev) tries),ev⟩ else Blk0
theorem gw_zero {tr:List Blk} {p time:Int} {ev:List (List UInt8)} {tries:Int} (h:gwCode tr p time ev tries = 0) :
  Y1 tr = 0/\(0<=p/\p < (tr.length:Int))/\tr.length < 24/\fewB ev = true/\(((J2 tr).getD p.toNat Hd0).time < time/\time<=1099511627776)/\(0<=tries/\tries<=5000)
   /\ 0<=Y8 (U1 tr p.toNat time ev) tries/\Yh ((J2 tr).map hdD) (hdD (withN (U1 tr p.toNat time ev) (Y8 (U1 tr p.toNat time ev) tries))) < 0:=by
 unfold gwCode at h
 split at h
 ·rename_i a;exact absurd h a
 rename_i a
 split at h
 ·cases h
 rename_i b
 split at h
 ·cases h
 rename_i c
 split at h
 ·cases h
 rename_i d
 split at h
 ·cases h
 rename_i e
 split at h
 ·cases h
 rename_i f
 split at h
 ·cases h
 rename_i g
 have a:=Classical.not_not.1 a
 have c1:¬ tr.length = 24:=λ k=>c (.inl k)
 have c2:¬ fewB ev = false:=λ k=>c (.inr k)
 have:=(tree_zero a).2.1
 exact ⟨a,Classical.not_not.1 b,by omega,by simpa using c2,Classical.not_not.1 d,Classical.not_not.1 e,Classical.not_not.1 f,by omega⟩
end Go.Proofs.YtaolmfgpebncjaaGreat
