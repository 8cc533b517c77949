import Derived.Test.YteigcnamkfebgaaGreatDoorDE
import Derived.Test.YteigcnamkfebgaaGreatDoorHE
set_option linter.all false
set_option maxHeartbeats 25600000
namespace Go.Proofs.YteigcnamkfebgaaGreatDoor
open Go.RowKit
def aheadF (s:ByteArray):List IdD→Int
 | []=>0
 |t::l=>if(t.a.toList==s.toList)=true then t.n else aheadF s l
theorem rAhead_eq (L:List IdD) (v:Value) (s:ByteArray) (w:World) (hl:L.length≤1000000) (hv:IdR w v L):Calls Tryz.prog 47 #[v,.string s] w fun e w'=>e=.returned (.int .i64 (aheadF s L))∧w'=w:=by
 obtain⟨a1,n1,c1,rfl⟩:=hv.form;have hn1:n1=L.length:=hv.len;have HR:=zz hv;have HL:=zz hn1;have hle:n1≤1000000:=by omega
 clear hv hn1 hl;obtain⟨F,hF⟩:∃F,F=aheadF s L:=⟨_,rfl⟩;rw [←hF];have HF:=zz hF;clear hF;go_enter Tryz.func47,Tryz.ntmps47
 go_wp2
 go_loopg [8] n1 (fun gn t8 wr=>∃k:Nat,k+gn=n1∧t8=.int .i64 k∧wr=w∧F=aheadF s (L.drop k))
 case atStart=>exact⟨0,by omega,rfl,rfl,HF.out⟩
 case round=>
  obtain⟨G,rfl⟩:∃G,G=gk:=⟨_,rfl⟩;obtain⟨k,hk,rfl,rfl,hfk⟩:=hrel;have HK:=zz hk;have HFK:=zz hfk;clear hk hfk
  by_cases hlt:k < n1
  ·have hx:L[k]? =some (L[k]'(by rw [←HL.out];exact hlt)):=List.getElem?_eq_getElem _;have hd:L.drop k=L[k]'(by rw [←HL.out];exact hlt)::L.drop (k+1):=List.drop_eq_getElem_cons _;generalize L[k]'(by rw [←HL.out];exact hlt)=t at hx hd;have HD:=zz hd
   obtain⟨b,off,rfl,hr⟩:∃b off,a1=some ⟨b,off,none⟩∧wr.rangeAt b off (idY.flat L):=by
    rcases HR.out with⟨h1,h2⟩|⟨b,off,cap,h1,h2,h3⟩
    ·rw [h2]at hx;cases hx
    ·simp at h1;exact⟨b,off,h1.1,h3⟩
   have hrx:wr.rangeAt b (off+k*2) (idV t):=idY.elem hr k t hx;have q0:wr.cell? ⟨b,off+k*2,none⟩=some (.string t.a):=hrx 0 _ rfl;have q1:wr.cell? ⟨b,off+k*2+1,none⟩=some (.int .i64 t.n):=hrx 1 _ rfl;have hltZ:(k:Int) < (n1:Int):=by omega
   clear hr hx hrx hd
   cases he:(t.a.toList==s.toList)with
   |true=>
    have HE:=zz he
    go_wp2_with fail
    go_ret
    exact⟨by rw [HFK.out,HD.out,aheadF,if_pos HE.out];rfl,rfl⟩
   |false=>
    have HE:=zz he
    go_wp2_with fail
    go_roundg (n1 - 1 - k)
    case rel=>exact⟨k+1,by have:=HK.out;omega,by go_num,rfl,by rw [HFK.out,HD.out,aheadF,if_neg (by rw [HE.out];decide)]⟩
    case measure=>have:=HK.out;omega
  ·obtain rfl:k=n1:=by have:=HK.out;omega
   go_wp2_with fail
   go_ret
   exact⟨by rw [HFK.out,List.drop_eq_nil_of_le (by have:=HL.out;omega)];rfl,rfl⟩
section
def IsZ (p:Prop) (e:Ending):Prop:=∃n:Int,e=.returned (.int .i64 n)∧(n=0→p)
attribute [local go_sem high] eql38 eql43 eql207
set_option maxRecDepth 100000 in
theorem rCheck37_any (x:EdD) (D:List IdD) (w:World) (s1:x.id.a.size≤1000000000) (s2:x.node.a.size≤1000000000) (s3:x.parent.a.size≤1000000000) (s4:x.target.a.size≤1000000000) (s5:x.num.size≤1000000000) (s6:x.den.size≤1000000000) (s7:x.field.size≤1000000000) (s8:x.value.size≤1000000000) (s9:x.who.size≤100000000)
  (hl:D.length≤1000000) (hs:∀y∈D,y.a.size≤1000000000) (hD:IdR w x.deps.v D):
  Calls Tryz.prog 18 #[.agg (edV x).toArray] w fun e w'=>IsZ (authB x.id.a=true∧1≤x.id.n∧x.id.n≤1000000000) e∧Below w.heap.size w w':=by
 have HR0:=rRest_any x;have HH0:=fun w=>rHas37_any x w s1 s2 s3 s4 s5 s6 s7 s8 s9
 obtain⟨⟨ia,im⟩,clock,floor,deps,kind,⟨na,nn⟩,⟨pa,pn⟩,neg,num,den,field,value,⟨ta,tn⟩,who⟩:=x;simp only at s1 hD⊢;have BL:=(Below.refl w.heap.size w).alloc (Nat.le_refl _) (.cells #[.string ia,.int .i64 im,.int .i64 clock,.int .i64 floor,.slice deps.a deps.len deps.cap,.int .i64 kind,.string na,.int .i64 nn,.string pa,.int .i64 pn,.bool neg,.string num,.string den,.string field,.string value,.string ta,.int .i64 tn,.string who] 45);have R1:(w.alloc (.cells #[.string ia,.int .i64 im,.int .i64 clock,.int .i64 floor,.slice deps.a deps.len deps.cap,.int .i64 kind,.string na,.int .i64 nn,.string pa,.int .i64 pn,.bool neg,.string num,.string den,.string field,.string value,.string ta,.int .i64 tn,.string who] 45)).heap[w.heap.size]? =_:=zg _ _ _ rfl;change Calls Tryz.prog 18 #[.agg #[.string ia,.int .i64 im,.int .i64 clock,.int .i64 floor,.slice deps.a deps.len deps.cap,.int .i64 kind,.string na,.int .i64 nn,.string pa,.int .i64 pn,.bool neg,.string num,.string den,.string field,.string value,.string ta,.int .i64 tn,.string who]] w _;change∀w,Calls Tryz.prog 48 #[.agg #[.string ia,.int .i64 im,.int .i64 clock,.int .i64 floor,.slice deps.a deps.len deps.cap,.int .i64 kind,.string na,.int .i64 nn,.string pa,.int .i64 pn,.bool neg,.string num,.string den,.string field,.string value,.string ta,.int .i64 tn,.string who]] w _ at HR0;change∀w,Calls Tryz.prog 49 #[.agg #[.string ia,.int .i64 im,.int .i64 clock,.int .i64 floor,.slice deps.a deps.len deps.cap,.int .i64 kind,.string na,.int .i64 nn,.string pa,.int .i64 pn,.bool neg,.string num,.string den,.string field,.string value,.string ta,.int .i64 tn,.string who]] w _ at HH0;change IdR w (.slice deps.a deps.len deps.cap) D at hD;have HR:=zz HR0;have HH:=zz HH0;have HD:=zz hD;have HS:=zz hs;clear HR0 HH0 hD hs s2 s3 s4 s5 s6 s7 s8 s9;have HAU0:=rAuthor_eq ia (by omega);generalize authB ia=b at HAU0⊢;have HAU:=zz HAU0;clear HAU0;go_enter Tryz.func18,Tryz.ntmps18
 go_wp2_with fail
 with_reducible refine(HAU.out _).mono ?_
 rintro e w4 ⟨rfl,rfl⟩;clear HAU
 cases b with
 |false=>
  go_wp2_with fail
  go_ret
  exact⟨⟨7,rfl,fun h=>absurd h (by decide)⟩,BL⟩
 |true=>
  by_cases h1:im < 1
  ·have d1:decide (im < 1)=true:=by simpa using h1
   go_wp2_with fail
   go_ret
   exact⟨⟨2,rfl,fun h=>absurd h (by decide)⟩,BL⟩
  by_cases h2:im>1000000000
  ·have d1:decide (im < 1)=false:=by simpa using h1
   have d2:decide (1000000000 < im)=true:=by simpa using h2
   go_wp2_with fail
   go_ret
   exact⟨⟨2,rfl,fun h=>absurd h (by decide)⟩,BL⟩
  have hI:(true=true)∧1≤im∧im≤1000000000:=⟨rfl,by omega,by omega⟩;have HI:=zz hI;have d1:decide (im < 1)=false:=by simpa using h1
  have d2:decide (1000000000 < im)=false:=by simpa using h2
  cases d3:decide (clock < im)with
  |true=>
   go_wp2_with fail
   go_ret
   exact⟨⟨_,rfl,fun h=>absurd h (by decide)⟩,BL⟩
  |false=>
  cases d4:decide (1000000000 < clock)with
  |true=>
   go_wp2_with fail
   go_ret
   exact⟨⟨_,rfl,fun h=>absurd h (by decide)⟩,BL⟩
  |false=>
  cases d5:decide (floor < 0)with
  |true=>
   go_wp2_with fail
   go_ret
   exact⟨⟨_,rfl,fun h=>absurd h (by decide)⟩,BL⟩
  |false=>
  cases d6:decide (clock≤floor)with
  |true=>
   go_wp2_with fail
   go_ret
   exact⟨⟨_,rfl,fun h=>absurd h (by decide)⟩,BL⟩
  |false=>
  clear h1 h2 hI
  go_wp2_with fail
  with_reducible refine(rDeps_any D _ _ hl HS.out (HD.out.below BL)).mono ?_
  rintro e w5 ⟨⟨n5,rfl⟩,hb⟩;have R1:=(hb.block _ (zl R1)).trans R1;have BL:=BL.trans (hb.mono BL.size);clear hb;have c0:=zc _ _ 0 _ _ _ R1;have c1:=zc _ _ 1 _ _ _ R1;have c2:=zc _ _ 2 _ _ _ R1;have c3:=zc _ _ 3 _ _ _ R1;have c4:=zc _ _ 4 _ _ _ R1;have c5:=zc _ _ 5 _ _ _ R1;have c14:=zc _ _ 14 _ _ _ R1
  by_cases h5:n5=0
  ·subst h5
   go_wp2_with fail
   have HD5:=zz (IdR.below HD.out BL);have hlen:deps.len=D.length:=HD.out.len;have HL:=zz hlen;have hle:deps.len≤1000000:=by omega
   clear hlen
   go_loopg [54] deps.len (fun gn t54 wr=>∃k:Nat,k+gn=deps.len∧t54=.int .i64 k∧wr=w5)
   case atStart=>exact⟨0,by omega,rfl,rfl⟩
   case round=>
    obtain⟨G,rfl⟩:∃G,G=gk:=⟨_,rfl⟩;obtain⟨k,hk,rfl,rfl⟩:=hrel;have HK:=zz hk;clear hk
    by_cases hlt:k < deps.len
    ·have hx:D[k]? =some (D[k]'(by rw [←HL.out];exact hlt)):=List.getElem?_eq_getElem _;generalize D[k]'(by rw [←HL.out];exact hlt)=t at hx
     obtain⟨b,off,hda,hr⟩:∃b off,deps.a=some ⟨b,off,none⟩∧wr.rangeAt b off (idY.flat D):=by
      rcases HD5.out with⟨h1,h2⟩|⟨b,off,cap,h1,h2,h3⟩
      ·rw [h2]at hx;cases hx
      ·simp at h1;exact⟨b,off,h1.1,h3⟩
     have hrx:wr.rangeAt b (off+k*2) (idV t):=idY.elem hr k t hx;have q1:wr.cell? ⟨b,off+k*2+1,none⟩=some (.int .i64 t.n):=hrx 1 _ rfl;have hltZ:(k:Int) < (deps.len:Int):=by omega
     rw [hda]at c4;clear hr hx hrx hda
     cases h8:decide (1000000000 < t.n)with
     |true=>
      go_wp2_with fail
      go_ret
      exact⟨⟨_,rfl,fun h=>absurd h (by decide)⟩,BL⟩
     |false=>
      go_wp2_with fail
      go_roundg (deps.len - 1 - k)
      case rel=>exact⟨k+1,by have:=HK.out;omega,by go_num,rfl⟩
      case measure=>have:=HK.out;omega
    ·obtain rfl:k=deps.len:=by have:=HK.out;omega
     go_wp2_with fail
     have hi1:=HI.out.2.1;have hi2:=HI.out.2.2;have hw:IntKind.i64.wrap (im - 1)=im - 1:=i64w _ (by omega) (by omega);have HU:=fun n=>rAhead_eq D (.slice deps.a deps.len deps.cap) ia (wr.drewN n) hl (IdR.below HD5.out (Below_drewN (Below.refl _ _) n))
     generalize aheadF ia D=u at HU;have HU:=zz HU
     go_quiet (first
      |(go_at_call 47;with_reducible exact Calls.quiet_of_same (HU.out _)))
     have BQ:=Below_drewN BL nq;have RQ:(wr.drewN nq).heap[w.heap.size]? =_:=R1;clear HU
     cases h9:(u==im - 1)with
     |false=>
      go_wp2_with fail
      go_ret
      exact⟨⟨_,rfl,fun h=>absurd h (by decide)⟩,BQ⟩
     |true=>
      cases h10:decide (kind < 1)with
      |true=>
       go_wp2_with fail
       go_ret
       exact⟨⟨_,rfl,fun h=>absurd h (by decide)⟩,BQ⟩
      |false=>
       cases h11:decide (6 < kind)with
       |true=>
        go_wp2_with fail
        go_ret
        exact⟨⟨_,rfl,fun h=>absurd h (by decide)⟩,BQ⟩
       |false=>
        by_cases hk:kind=3
        ·subst hk
         as_aux_lemma=>
          go_wp2_with(refine wpList_load_roww (by rfl) 45 _ rfl w.heap.size rfl 45 _ (0,0) _ RQ rfl Tryz.underlying45 (by kernel_rfl) ?_)
          all_goals first
           |(go_ret;exact⟨⟨_,rfl,fun h=>absurd h (by decide)⟩,BQ⟩)
           |(
             with_reducible refine(HR.out _).mono ?_
             rintro e w6 ⟨⟨b6,rfl⟩,hb6⟩;have RQ:=(hb6.block _ (zl RQ)).trans RQ;have BQ:=BQ.trans (hb6.mono BQ.size);cases b6
             ·go_wp2_with fail
              go_ret
              exact⟨⟨_,rfl,fun h=>absurd h (by decide)⟩,BQ⟩
             ·go_wp2_with(refine wpList_load_roww (by rfl) 45 _ rfl w.heap.size rfl 45 _ (0,0) _ RQ rfl Tryz.underlying45 (by kernel_rfl) ?_)
              with_reducible refine(HH.out _).mono ?_
              rintro e w7 ⟨⟨b7,rfl⟩,hb7⟩;have BQ:=BQ.trans (hb7.mono BQ.size);cases b7
              ·go_wp2_with fail
               go_ret
               exact⟨⟨_,rfl,fun h=>absurd h (by decide)⟩,BQ⟩
              ·go_wp2_with fail
               go_ret
               exact⟨⟨_,rfl,fun _=>by first|exact HI.out|trivial⟩,BQ⟩)
        ·have d12:(kind==3)=false:=by simpa using hk
         as_aux_lemma=>
          go_wp2_with(refine wpList_load_roww (by rfl) 45 _ rfl w.heap.size rfl 45 _ (0,0) _ RQ rfl Tryz.underlying45 (by kernel_rfl) ?_)
          all_goals first
           |(go_ret;exact⟨⟨_,rfl,fun h=>absurd h (by decide)⟩,BQ⟩)
           |(
             with_reducible refine(HR.out _).mono ?_
             rintro e w6 ⟨⟨b6,rfl⟩,hb6⟩;have RQ:=(hb6.block _ (zl RQ)).trans RQ;have BQ:=BQ.trans (hb6.mono BQ.size);cases b6
             ·go_wp2_with fail
              go_ret
              exact⟨⟨_,rfl,fun h=>absurd h (by decide)⟩,BQ⟩
             ·go_wp2_with(refine wpList_load_roww (by rfl) 45 _ rfl w.heap.size rfl 45 _ (0,0) _ RQ rfl Tryz.underlying45 (by kernel_rfl) ?_)
              with_reducible refine(HH.out _).mono ?_
              rintro e w7 ⟨⟨b7,rfl⟩,hb7⟩;have BQ:=BQ.trans (hb7.mono BQ.size);cases b7
              ·go_wp2_with fail
               go_ret
               exact⟨⟨_,rfl,fun h=>absurd h (by decide)⟩,BQ⟩
              ·go_wp2_with fail
               go_ret
               exact⟨⟨_,rfl,fun _=>by first|exact HI.out|trivial⟩,BQ⟩)
  ·have d7:(n5==0)=false:=by simpa using h5
   go_wp2_with fail
   go_ret
   exact⟨⟨_,rfl,fun h=>absurd h h5⟩,BL⟩
end
end Go.Proofs.YteigcnamkfebgaaGreatDoor
