/- Blocks laid anew in boxes. -/
import Derived.Test.YtaolmfgpebncjaaGreatNd
import Derived.Test.YtaolmfgpebncjaaGreatXa
import Derived.Test.YtaolmfgpebncjaaGreatGj
import Derived.Test.YtaolmfgpebncjaaGreatGk
import Derived.Test.YtaolmfgpebncjaaGreatRd
set_option maxRecDepth 100000
set_option maxHeartbeats 3200000
set_option linter.unusedSimpArgs false
set_option linter.unusedVariables false
namespace Go.Proofs.YtaolmfgpebncjaaGreat
open Go.Av
attribute [local irreducible] T thenQ Uv Y0 Uz WX retV retR Gt Gts GtsP Qs CV CR Av.Pure
def hdBy (h:Hd):List UInt8:=h.parent++h.root
def hdN (r:Nat) (a _b:Nat) (h:Hd):AV:=.agg [.sl r a h.parent.length h.parent.length,.int .i64 h.height,.int .i64 h.time,.int .i64 h.zeros,.sl r (a + h.parent.length) h.root.length h.root.length,.int .i64 h.nonce]
def hdsN (r:Nat) (l:List Hd):List AV:=laidN HdW (λ _=>0) (hdN r) 0 0 l
abbrev hdZ:AV:=.agg [nilS,.int .i64 0,.int .i64 0,.int .i64 0,nilS,.int .i64 0]
theorem rn_hds (ρ:Nat->Nat) (r:Nat) (l:List Hd):RenEL ρ (hdsN r l) (hdsN (ρ r) l):=by
 unfold hdsN
 exact laidN_ren (λ a b x=>Q7 (.sl _ _ _ _) (Q7 (.pure (Qb _ _)) (Q7 (.pure (Qb _ _)) (Q7 (.pure (Qb _ _)) (Q7 (.sl _ _ _ _) (Q7 (.pure (Qb _ _)) Qf)))))) 0 0 l
theorem lw_hds {N:Nat} (r:Nat) (l:List Hd) (h:r < N):LowX N (hdsN r l):=by
 unfold hdsN
 exact laidN_low (λ a b x=>Qq (.sl _ _ _ _ h) (Qq (.pure (Qb _ _)) (Qq (.pure (Qb _ _)) (Qq (.pure (Qb _ _)) (Qq (.sl _ _ _ _ h) (Qq (.pure (Qb _ _)) J0)))))) 0 0 l
instance (r:Nat) (l:List Hd):OwnEC (hdsN r l):=⟨by
 unfold hdsN
 refine laidN_own ?_ 0 0 l
 exact λ a b x=>ownL_cons (own_sl _ _ _ _) (ownL_cons (flat_int _ _).own (ownL_cons (flat_int _ _).own (ownL_cons (flat_int _ _).own (ownL_cons (own_sl _ _ _ _) (ownL_cons (flat_int _ _).own ownL_nil)))))⟩
theorem toHead_cr0 (x:Hd) (h:HdW x<=1048576):CR Tryz.prog 117 [hdA x] [] 0 (Is (.agg [.sl 0 0 x.parent.length x.parent.length,.int .i64 x.height,.int .i64 x.time,.int .i64 x.zeros,.sl (0 + 1) 0 x.root.length x.root.length,.int .i64 x.nonce])
  [(0,some ⟨bA x.parent,1,false,false⟩),(0 + 1,some ⟨bA x.root,1,false,false⟩)] (0 + 2)):=by
 refine Us Qc Tryz.func117 (by kernel_rfl) rfl 25 rfl (by simp) [.cell 2 39] rfl ?_
 intro w0 ok0 wr φ0
 unfold HdW at h
 have c0:=λ N=>toByteS_cr x.parent (by omega) N
 have c1:=λ N=>toByteS_cr x.root (by omega) N
 repeat' (first|refine Qh ?_|refine Q9 ?_|refine Q8 Qc ?_|refine Qi ?_|refine Qu ?_|(apply Jj;exact rfl;exact Q0 rfl;(iterate 3 exact rfl);(· (first|exact ⟨rfl,rfl⟩|exact ⟨rfl,trivial⟩|assumption)))|(apply Yc;exact rfl;exact Q0 rfl;(iterate 6 exact rfl))|(apply J6;(iterate 4 exact rfl);exact Q0 rfl)|apply U0|apply Yd|(apply Jg;exact rfl;exact Q0 rfl;(iterate 4 exact rfl))|(apply S_storeF;exact rfl;exact Q0 rfl;(iterate 4 exact rfl);exact Q0 rfl;exact rfl;exact rfl;(· (repeat' constructor)))|apply S_callI (f:=30)|apply c0|apply c1|exact Qa|apply Q3|(apply View.pure;exact Q4.out)|exact OwnC.out|exact ownB_nil|(apply ownB_boxM;(· (apply mlen;first|exact rfl|assumption|exact Nat.le_of_ble_eq_true rfl|omega|(simp [Q1];done)|(simp [Q1];omega)));exact OwnEC.out)|exact Q0 rfl|exact Ql|(apply Qg;exact Q0 rfl)|exact Q5 rfl rfl|exact rfl|fail)
 (apply E_U0 [(0,3),(1,4)]<;>repeat' (first|exact J4|(apply J3;exact rfl)|(apply Qx;(iterate 6 exact rfl))|(apply J5;(iterate 4 exact rfl);(· (first|assumption|exact rfl)))|exact Ren.sl _ _ _ _|(apply Ub;(· first|exact rfl|omega);(· first|exact rfl|assumption|(simp [Q1];done)|(simp [Q1];omega));(· first|exact rfl|assumption|(simp [Q1];done)|(simp [Q1];omega)))|exact Ren.ptr _ _ _|exact Qf|apply Q7|(apply Ren.pure;exact Q4.out)|apply Qm|apply Qv|exact Low.sl _ _ _ _ (by decide)|exact Low.ptr _ _ _ (by decide)|exact J0|apply Qq|(apply Low.pure;exact Q4.out)|apply U3|apply U2|exact Ji|(apply Jx;exact rfl;(· first|exact rfl|assumption|(simp [bA];done));exact Q6.out)|(apply Jh;exact rfl)|exact Jc|apply J1|(apply Uf.low;exact Q6.out)|apply Ju|exact Jv|(apply Yg;exact rfl)|exact Ud|apply Jz|apply lowX_cons|exact U6 _ _ _ _|exact outsN_low _ _ _ (by decide)|apply rn_vlds|apply rn_hds|(apply lw_vlds<;>decide)|(apply lw_hds<;>decide)|exact rfl))
theorem toHead_cr (x:Hd) (h:HdW x<=1048576) (N:Nat):CR Tryz.prog 117 [hdA x] [] N (Is (.agg [.sl N 0 x.parent.length x.parent.length,.int .i64 x.height,.int .i64 x.time,.int .i64 x.zeros,.sl (N + 1) 0 x.root.length x.root.length,.int .i64 x.nonce])
  [(N,some ⟨bA x.parent,1,false,false⟩),(N + 1,some ⟨bA x.root,1,false,false⟩)] (N + 2)) :=
 CR.allN (toHead_cr0 x h) N (by first|exact Q4.out|exact Qe.out|assumption) (by repeat' (first|exact Ren.sl _ _ _ _|exact Ren.ptr _ _ _|exact Qf|apply Q7|(apply Ren.pure;(first|exact Q4.out|exact Qe.out|assumption))|apply Qm|apply Qv)) (by repeat' (first|exact Jn|(apply Ja;exact rfl;(· (exact Q6.out)))|(apply Jm;exact rfl)|exact Qf|apply Q7|exact Ren.sl _ _ _ _|exact Ren.ptr _ _ _|(apply Ren.pure;(first|exact Q4.out|exact Qe.out|assumption))|apply Qm|(apply Um;exact rfl)|exact U6 _ _ _ _|apply rn_vlds|apply rn_hds))
def HdOk (L:Nat) (x:AV):Prop:=∃ (o m o' m':Nat) (a b c d:Int),x = .agg [.sl 0 o m m,.int .i64 a,.int .i64 b,.int .i64 c,.sl 0 o' m' m',.int .i64 d]/\o + m<=L/\o' + m'<=L
end Go.Proofs.YtaolmfgpebncjaaGreat
set_option maxRecDepth 100000
set_option maxHeartbeats 3200000
set_option linter.unusedSimpArgs false
set_option linter.unusedVariables false
namespace Go.Proofs.YtaolmfgpebncjaaGreat
open Go.Av
attribute [local irreducible] T thenQ Uv Y0 Uz WX retV retR Gt Gts GtsP Qs CV CR Av.Pure
def blkBy (x:Blk):List UInt8:=x.head.parent++x.head.root++x.events.flatten
def blkW1 (x:Blk):Nat:=x.head.parent.length + x.head.root.length + x.events.flatten.length
def blkW2 (x:Blk):Nat:=x.events.length
theorem blkBy_length (x:Blk):(blkBy x).length = blkW1 x:=by simp only [blkBy,blkW1,List.length_append]
def blkN (r q:Nat) (a b:Nat) (x:Blk):AV:=.agg [.sl r a x.head.parent.length x.head.parent.length,.int .i64 x.head.height,.int .i64 x.head.time,.int .i64 x.head.zeros,.sl r (a + x.head.parent.length) x.head.root.length x.head.root.length,.int .i64 x.head.nonce,.sl q b x.events.length x.events.length]
def blksN (r q:Nat) (l:List Blk):List AV:=laidN blkW1 blkW2 (blkN r q) 0 0 l
abbrev blkZ:AV:=.agg [nilS,.int .i64 0,.int .i64 0,.int .i64 0,nilS,.int .i64 0,nilS]
def outsB (r:Nat):Nat->List Blk->List AV
 | _,[]=>[]
 | a,x::l=>Yb r (a + x.head.parent.length + x.head.root.length) (x.events.map List.length)++outsB r (a + blkW1 x) l
theorem blksN_length (r q:Nat) (l:List Blk):(blksN r q l).length = l.length:=laidN_length _ _ _
theorem rn_blks (ρ:Nat->Nat) (r q:Nat) (l:List Blk):RenEL ρ (blksN r q l) (blksN (ρ r) (ρ q) l):=by
 unfold blksN
 exact laidN_ren (λ a b x=>Q7 (.sl _ _ _ _) (Q7 (.pure (Qb _ _)) (Q7 (.pure (Qb _ _)) (Q7 (.pure (Qb _ _)) (Q7 (.sl _ _ _ _) (Q7 (.pure (Qb _ _)) (Q7 (.sl _ _ _ _) Qf))))))) 0 0 l
theorem lw_blks {N:Nat} (r q:Nat) (l:List Blk) (h:r < N) (h2:q < N):LowX N (blksN r q l):=by
 unfold blksN
 exact laidN_low (λ a b x=>Qq (.sl _ _ _ _ h) (Qq (.pure (Qb _ _)) (Qq (.pure (Qb _ _)) (Qq (.pure (Qb _ _)) (Qq (.sl _ _ _ _ h) (Qq (.pure (Qb _ _)) (Qq (.sl _ _ _ _ h2) J0))))))) 0 0 l
instance (r q:Nat) (l:List Blk):OwnEC (blksN r q l):=⟨by
 unfold blksN
 refine laidN_own ?_ 0 0 l
 exact λ a b x=>ownL_cons (own_sl _ _ _ _) (ownL_cons (flat_int _ _).own (ownL_cons (flat_int _ _).own (ownL_cons (flat_int _ _).own (ownL_cons (own_sl _ _ _ _) (ownL_cons (flat_int _ _).own (ownL_cons (own_sl _ _ _ _) ownL_nil))))))⟩
theorem blks_sum1 (l:List Blk):(l.map blkW1).sum = (l.map blkBy).flatten.length:=by
 rw [List.length_flatten,List.map_map]
 congr 1
 exact List.map_congr_left λ x _=>(blkBy_length x).symm
theorem outsB_append (r:Nat):∀ (a:Nat) (l m:List Blk),outsB r a (l++m) = outsB r a l++outsB r (a + (l.map blkW1).sum) m
 | a,[],m=>by simp [outsB]
 | a,x::l,m=>by simp [outsB,outsB_append r (a + blkW1 x) l m,Nat.add_assoc]
theorem outsB_length (r:Nat):∀ (a:Nat) (l:List Blk),(outsB r a l).length = (l.map blkW2).sum
 | _,[]=>rfl
 | a,x::l=>by simp [outsB,outsN_length,outsB_length r (a + blkW1 x) l,blkW2]
theorem outsB_mem {r:Nat}:∀ {a:Nat} {l:List Blk} {y:AV},y∈outsB r a l->∃ o n,y = .sl r o n n/\o + n<=a + (l.map blkW1).sum
 | a,x::l,y,h=>by
   simp only [outsB,List.mem_append] at h
   simp only [List.map_cons,List.sum_cons]
   rcases h with h|h
   ·obtain ⟨o,n,e,hl⟩:=outsN_mem h
    refine ⟨o,n,e,?_⟩
    rw [<-List.length_flatten] at hl
    unfold blkW1
    omega
   ·obtain ⟨o,n,e,hl⟩:=outsB_mem h
    exact ⟨o,n,e,by omega⟩
 | _,[],_,h=>by cases h
theorem rn_outsB (ρ:Nat->Nat) (r:Nat):∀ (a:Nat) (l:List Blk),RenEL ρ (outsB r a l) (outsB (ρ r) a l)
 | _,[]=>trivial
 | a,x::l=>renEL_app (U6 ρ r _ _) (rn_outsB ρ r (a + blkW1 x) l)
theorem lw_outsB {N:Nat} (r a:Nat) (l:List Blk) (h:r < N):LowX N (outsB r a l):=λ x hx y hy=>by
 obtain ⟨o,n,rfl,_⟩:=outsB_mem hx
 simp only [AV.cells,List.mem_singleton] at hy
 subst hy
 exact .sl _ _ _ _ h
instance (r a:Nat) (l:List Blk):OwnEC (outsB r a l):=⟨λ x hx y hy=>by
 obtain ⟨o,n,rfl,_⟩:=outsB_mem hx
 simp only [AV.cells,List.mem_singleton] at hy
 subst hy
 exact own_sl _ _ _ _⟩
theorem catX_mem {i m j:Nat} {E:List AV} (h:∀ x∈E,CatL i m j x.cells x.cells):CatX i m j E E:=⟨rfl,λ n x y h1 h2=>by
 rw [h1] at h2
 obtain rfl:=Option.some.inj h2
 exact h x (List.mem_of_getElem? h1)⟩
theorem outsB_cat {j M:Nat} {a:Nat} {l:List Blk} (h:a + (l.map blkW1).sum<=M):CatX 1 M j (outsB 1 a l) (outsB 1 a l):=catX_mem λ x hx=>by
 obtain ⟨o,n,rfl,hl⟩:=outsB_mem hx
 exact Jy (.sl1 _ _ _ (by omega)) catL_nil
theorem outsB_cat0 {j M:Nat} {a:Nat} {l:List Blk}:CatX 2 M j (outsB 1 a l) (outsB 1 a l):=catX_mem λ x hx=>by
 obtain ⟨o,n,rfl,hl⟩:=outsB_mem hx
 exact Jy (.sl0 _ _ _ _ (by decide)) catL_nil
theorem outsN_catM {r j M:Nat} (ns:List Nat):∀ off,CatX r M j (Yb j off ns) (Yb r (M + off) ns):=by
 induction ns with
 | nil=>intro _;exact catX_nil
 | cons n l ih =>
   intro off
   exact catX_cons (Jy (.sl2 _ _ _ _ rfl) catL_nil) (by have:=ih (off + n);rwa [<-Nat.add_assoc] at this)
theorem blks_cat {j M:Nat} {l:List Blk} (h:(l.map blkW1).sum<=M):CatX 1 M j (blksN 1 2 l) (blksN 1 2 l):=by
 unfold blksN
 exact laidN_cat (A:=M) (B:=(l.map blkW2).sum) (λ x c d h1 _=>Jy (.sl1 _ _ _ (by unfold blkW1 at h1;omega)) (Jy (.pure (Qb _ _)) (Jy (.pure (Qb _ _)) (Jy (.pure (Qb _ _)) (Jy (.sl1 _ _ _ (by unfold blkW1 at h1;omega)) (Jy (.pure (Qb _ _)) (Jy (.sl0 _ _ _ _ (by decide)) catL_nil))))))) 0 0 l (by omega) (by omega)
theorem blks_cat2 {j M:Nat} {l:List Blk} (h:(l.map blkW2).sum<=M):CatX 2 M j (blksN 1 2 l) (blksN 1 2 l):=by
 unfold blksN
 exact laidN_cat (A:=(l.map blkW1).sum) (B:=M) (λ x c d _ h1=>Jy (.sl0 _ _ _ _ (by decide)) (Jy (.pure (Qb _ _)) (Jy (.pure (Qb _ _)) (Jy (.pure (Qb _ _)) (Jy (.sl0 _ _ _ _ (by decide)) (Jy (.pure (Qb _ _)) (Jy (.sl1 _ _ _ (by unfold blkW2 at h1;omega)) catL_nil))))))) 0 0 l (by omega) (by omega)
theorem vx_blks {bx:List (Nat×Option Box)} {o q r len cap:Nat} {l:List Blk} {sl ro sl' ro' sl2 ro2:Bool} (ho:box? bx o = some ⟨blksN r q l,7,sl,ro⟩) (hq:box? bx q = some ⟨outsB r 0 l,1,sl2,ro2⟩) (hr:box? bx r = some ⟨bA (l.map blkBy).flatten,1,sl',ro'⟩) (hl:Mlen (len = l.length)):View bx (.sl o 0 len cap) (blkAS l):=by
 have hl:=hl.out
 refine view_laid blkA ho 0 0 (by rw [List.drop_zero];exact List.take_of_length_le (by rw [blksN_length];omega)) (by rw [blksN_length];omega) hl (λ x d hd=>by simp only [AV.cells,List.mem_cons,List.not_mem_nil,or_false] at hd;rcases hd with rfl|rfl|rfl|rfl|rfl|rfl|rfl<;>rfl) λ i x hx=>?_
 have hk:(l.map blkBy)[i]? = some (blkBy x):=by rw [List.getElem?_map,hx];rfl
 have e:((l.take i).map blkW1).sum = (((l.map blkBy).map List.length).take i).sum:=by
  rw [List.map_map,<-List.map_take]
  congr 1
  exact List.map_congr_left λ x _=>(blkBy_length x).symm
 have f1:=flat_part _ i _ hk
 have f2:=flat_fit _ hk
 rw [blkBy_length] at f1 f2
 rw [<-e] at f1 f2
 have hsp:l = l.take i++x::l.drop (i + 1):=by
  have hi:=(List.getElem?_eq_some_iff.1 hx)
  obtain ⟨hi,hxe⟩:=hi
  conv=>lhs;rw [<-List.take_append_drop i l,List.drop_eq_getElem_cons hi,hxe]
 have hQ:outsB r 0 l = outsB r 0 (l.take i)++(Yb r (((l.take i).map blkW1).sum + x.head.parent.length + x.head.root.length) (x.events.map List.length)++outsB r (((l.take i).map blkW1).sum + blkW1 x) (l.drop (i + 1))):=by
  conv=>lhs;rw [hsp,outsB_append,Nat.zero_add]
  rfl
 have hQl:=outsB_length r 0 (l.take i)
 have hns:=outsN_length r (((l.take i).map blkW1).sum + x.head.parent.length + x.head.root.length) (x.events.map List.length)
 rw [List.length_map] at hns
 generalize ((l.take i).map blkW1).sum = s at *
 generalize ((l.take i).map blkW2).sum = b at *
 have hw:blkW1 x = x.head.parent.length + x.head.root.length + x.events.flatten.length:=rfl
 refine Q3 (y:=byA x.head.parent) ?_ (Q3 (.pure (Qb _ _)) (Q3 (.pure (Qb _ _)) (Q3 (.pure (Qb _ _)) (Q3 (y:=byA x.head.root) ?_ (Q3 (.pure (Qb _ _)) (Q3 (y:=Y2 x.events) ?_ Qa))))))
 ·exact view_part hr (by omega) (by
   have:=part_part (c:=0) (n:=x.head.parent.length) f1 (by omega)
   rw [Nat.add_zero] at this
   rw [Nat.zero_add,this,List.drop_zero,blkBy,List.append_assoc,List.take_left])
 ·exact view_part hr (by omega) (by
   have:=part_part (c:=x.head.parent.length) (n:=x.head.root.length) f1 (by omega)
   rw [Nat.zero_add,this,blkBy,List.append_assoc,List.drop_left,List.take_left])
 ·refine view_rowsP (a0:=s + x.head.parent.length + x.head.root.length) hq ?_ ?_ hr ?_ (by omega) rfl
  ·rw [hQ,Nat.zero_add,List.drop_append_of_le_length (by omega),List.drop_of_length_le (by omega),List.nil_append,List.take_append_of_le_length (by omega),List.take_of_length_le (by omega)]
  ·rw [hQ]
   simp only [List.length_append]
   omega
  ·have:=part_part (c:=x.head.parent.length + x.head.root.length) (n:=x.events.flatten.length) f1 (by omega)
   rw [<-Nat.add_assoc] at this
   rw [this,blkBy,List.drop_append_of_le_length (by simp),List.drop_of_length_le (by simp),List.nil_append,List.take_length]
theorem pureB_blkZ (n:Nat):Uf (List.replicate n blkZ):=λ x hx=>by
 obtain ⟨_,rfl⟩:=List.mem_replicate.1 hx
 exact ⟨show PureAll [nilS,.int .i64 0,.int .i64 0,.int .i64 0,nilS,.int .i64 0,nilS] from Qe.out,rfl⟩
theorem toBlock_cr0 (x:Blk) (h:BlkW x<=1048576):CR Tryz.prog 56 [blkA x] [] 0 (Is (.agg [.sl 0 0 x.head.parent.length x.head.parent.length,.int .i64 x.head.height,.int .i64 x.head.time,.int .i64 x.head.zeros,.sl (0 + 1) 0 x.head.root.length x.head.root.length,.int .i64 x.head.nonce,.sl (0 + 3) 0 x.events.length x.events.length])
  [(0,some ⟨bA x.head.parent,1,false,false⟩),(0 + 1,some ⟨bA x.head.root,1,false,false⟩),(0 + 2,some ⟨bA x.events.flatten,1,true,false⟩),(0 + 3,some ⟨Yb (0 + 2) 0 (x.events.map List.length),1,false,false⟩)] (0 + 4)):=by
 refine Us Qc Tryz.func56 (by kernel_rfl) rfl 13 rfl (by simp) [.cell 2 41] rfl ?_
 intro w0 ok0 wr φ0
 unfold BlkW at h
 have c0:=λ N=>toHead_cr x.head (by omega) N
 have c1:=λ N=>toRows_cr x.events (by omega) N
 repeat' (first|refine Qh ?_|refine Q9 ?_|refine Q8 Qc ?_|refine Qi ?_|refine Qu ?_|(apply Jj;exact rfl;exact Q0 rfl;(iterate 3 exact rfl);(· (first|exact ⟨rfl,rfl⟩|exact ⟨rfl,trivial⟩|assumption)))|(apply Yc;exact rfl;exact Q0 rfl;(iterate 6 exact rfl))|(apply M_loadA;exact rfl;exact rfl;exact Q0 rfl;exact rfl;exact rfl;(· (repeat' constructor)))|(apply J6;(iterate 4 exact rfl);exact Q0 rfl)|apply U0|apply Yd|(apply Jg;exact rfl;exact Q0 rfl;(iterate 4 exact rfl))|(apply S_storeF;exact rfl;exact Q0 rfl;(iterate 4 exact rfl);exact Q0 rfl;exact rfl;exact rfl;(· (repeat' constructor)))|(apply S_storeG;exact rfl;exact Q0 rfl;(iterate 3 exact rfl);exact Q0 rfl;(· (first|exact Q5 rfl rfl|assumption));(· (first|exact Nat.le_of_ble_eq_true rfl|omega|decide));exact rfl)|apply S_callI (f:=117)|apply c0|apply S_callI (f:=19)|apply c1|exact Qa|apply Q3|exact viewE_pure Q6.out|apply view_lsV|(apply View.pure;exact Q4.out)|exact OwnC.out|exact ownB_nil|(apply ownB_boxM;(· (apply mlen;first|exact rfl|assumption|exact Nat.le_of_ble_eq_true rfl|omega|(simp [Q1];done)|(simp [Q1];omega)));exact OwnEC.out)|exact Q0 rfl|exact Ql|(apply Qg;exact Q0 rfl)|exact Q5 rfl rfl|exact rfl|fail)
 (apply E_U0 [(0,3),(1,4),(2,5),(3,6)]<;>repeat' (first|exact J4|(apply J3;exact rfl)|(apply Qx;(iterate 6 exact rfl))|(apply J5;(iterate 4 exact rfl);(· (first|assumption|exact rfl)))|exact Ren.sl _ _ _ _|(apply Ub;(· first|exact rfl|omega);(· first|exact rfl|assumption|(simp [Q1];done)|(simp [Q1];omega));(· first|exact rfl|assumption|(simp [Q1];done)|(simp [Q1];omega)))|exact Ren.ptr _ _ _|exact Qf|apply Q7|(apply Ren.pure;exact Q4.out)|apply Qm|apply Qv|exact Low.sl _ _ _ _ (by decide)|exact Low.ptr _ _ _ (by decide)|exact J0|apply Qq|(apply Low.pure;exact Q4.out)|apply U3|apply U2|exact Ji|(apply Jx;exact rfl;(· first|exact rfl|assumption|(simp [bA];done));exact Q6.out)|(apply Jh;exact rfl)|exact Jc|apply J1|(apply Uf.low;exact Q6.out)|apply Ju|exact Jv|(apply Yg;exact rfl)|exact Ud|apply Jz|apply lowX_cons|exact U6 _ _ _ _|exact outsN_low _ _ _ (by decide)|apply rn_vlds|apply rn_hds|apply rn_blks|apply rn_outsB|(apply lw_vlds<;>decide)|(apply lw_hds<;>decide)|(apply lw_blks<;>decide)|(apply lw_outsB<;>decide)|exact rfl))
theorem toBlock_cr (x:Blk) (h:BlkW x<=1048576) (N:Nat):CR Tryz.prog 56 [blkA x] [] N (Is (.agg [.sl N 0 x.head.parent.length x.head.parent.length,.int .i64 x.head.height,.int .i64 x.head.time,.int .i64 x.head.zeros,.sl (N + 1) 0 x.head.root.length x.head.root.length,.int .i64 x.head.nonce,.sl (N + 3) 0 x.events.length x.events.length])
  [(N,some ⟨bA x.head.parent,1,false,false⟩),(N + 1,some ⟨bA x.head.root,1,false,false⟩),(N + 2,some ⟨bA x.events.flatten,1,true,false⟩),(N + 3,some ⟨Yb (N + 2) 0 (x.events.map List.length),1,false,false⟩)] (N + 4)) :=
 CR.allN (toBlock_cr0 x h) N (by first|exact Q4.out|exact Qe.out|assumption) (by repeat' (first|exact Ren.sl _ _ _ _|exact Ren.ptr _ _ _|exact Qf|apply Q7|(apply Ren.pure;(first|exact Q4.out|exact Qe.out|assumption))|apply Qm|apply Qv)) (by repeat' (first|exact Jn|(apply Ja;exact rfl;(· (exact Q6.out)))|(apply Jm;exact rfl)|exact Qf|apply Q7|exact Ren.sl _ _ _ _|exact Ren.ptr _ _ _|(apply Ren.pure;(first|exact Q4.out|exact Qe.out|assumption))|apply Qm|(apply Um;exact rfl)|exact U6 _ _ _ _|apply rn_vlds|apply rn_hds|apply rn_blks|apply rn_outsB))
end Go.Proofs.YtaolmfgpebncjaaGreat
