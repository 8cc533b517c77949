import Derived.Test.YteigcnamkfebgaaGreatDoorGJ
import Derived.Test.YteigcnamkfebgaaGreatDoorHB
import Derived.Test.YteigcnamkfebgaaGreatDoorFK
set_option linter.all false
set_option maxHeartbeats 25600000
namespace Go.Proofs.YteigcnamkfebgaaGreatDoor
open Go.RowKit
theorem same38_self (x:IdD):same38 x.a x.n x.a x.n=true:=by simp [same38]
theorem atF_notin (x:IdD):∀(L:List TnD) (k:Nat),atF x k L= -1→∀t∈L,t.node≠x
 | [],_,_,t,h=>by cases h
 |y::r,k,h,t,ht=>by
  unfold atF at h
  split at h
  ·omega
  ·rename_i hn
   rcases List.mem_cons.1 ht with rfl|ht
   ·intro e;subst e;exact hn (same38_self _)
   ·exact atF_notin x r (k+1) h t ht
def TnOk (K:List EdP) (t:TnD):Prop:=(∃x∈K,t.node=x.d.id)∧TnSm t∧∃x∈K,t.kind=x.d.value
structure FoldI (K:List EdP) (j:Nat) (L:List TnD):Prop where
 len:L.length≤j
 nodup:(L.map (·.node)).Nodup
 ok:∀t∈L,TnOk K t
theorem FoldI.step {K:List EdP} {j:Nat} {L M:List TnD} (h:FoldI K j L) (hsm:∀x∈K,EdSm x.d) {x:EdP} (hx:x∈K) (ho:OneR L x.d M):FoldI K (j+1) M:=by
 rcases ho with rfl|⟨h1,k,hk,rfl⟩|⟨i,t,ht,rfl⟩
 ·exact⟨by have:=h.len;omega,h.nodup,h.ok⟩
 ·have hp:(L.take k++ [newT x.d]++L.drop k).Perm (newT x.d::L):=by
   rw [List.append_assoc];refine List.perm_middle.trans ?_
   show(newT x.d::(L.take k++L.drop k)).Perm _
   rw [List.take_append_drop]
  refine⟨by rw [hp.length_eq];have:=h.len;simp;omega,(hp.map _).nodup_iff.2 ?_,fun t ht=>?_⟩
  ·rw [List.map_cons,List.nodup_cons];refine⟨fun hm=>?_,h.nodup⟩;obtain⟨t,ht,he⟩:=List.mem_map.1 hm;exact atF_notin x.d.id L 0 h1 t ht he
  ·rcases List.mem_cons.1 (hp.mem_iff.1 ht)with rfl|ht
   ·exact⟨⟨x,hx,rfl⟩,⟨(hsm x hx).s5,(hsm x hx).s6⟩,⟨x,hx,rfl⟩⟩
   ·exact h.ok t ht
 ·have hi:=(List.getElem?_eq_some_iff.1 ht).1
  have hm:(L.set i ⟨t.node,x.d.parent,x.d.neg,x.d.num,x.d.den,t.kind⟩).map (·.node)=L.map (·.node):=by
   apply List.ext_getElem?
   intro q;rw [List.getElem?_map,List.getElem?_map,List.getElem?_set]
   split
   ·rename_i e;subst e;obtain⟨_,h9⟩:=List.getElem?_eq_some_iff.1 ht;simp [hi,h9]
   ·rfl
  refine⟨by rw [List.length_set];have:=h.len;omega,by rw [hm];exact h.nodup,fun y hy=>?_⟩
  rcases List.mem_or_eq_of_mem_set hy with hy|rfl
  ·exact h.ok y hy
  ·have ho:=h.ok t (List.mem_of_getElem? ht);exact⟨ho.1,⟨(hsm x hx).s5,(hsm x hx).s6⟩,ho.2.2⟩
set_option maxRecDepth 100000 in
theorem fold41_any (K:List EdP) (v:Value) (w:World) (hv:EditsW w v K) (hl:K.length≤40) (hsm:∀x∈K,EdSm x.d):
  Calls Tryz.prog 21 #[.slice none 0 0,v] w fun e w'=>∃(b off cap:Nat) (L:List TnD),e=.returned (.slice (some ⟨b,off,none⟩) L.length cap)∧L.length≤cap∧w'.rangeAt b off (tnY.flat L)∧FoldI K K.length L∧Below w.heap.size w w':=by
 obtain⟨a1,n,c,rfl⟩:=hv.1.form;have hn:n=K.length:=by have:=hv.1.len;rw [this];simp
 have HV:=zz hv;have HN:=zz hn;have HSM:=zz hsm;have hle:n≤40:=by omega
 clear hv hn hl hsm;go_enter Tryz.func21,Tryz.ntmps21
 go_wp2
 go_loopg [5,12] n (fun gn t5 t12 wr=>∃(j b off cap:Nat) (L:List TnD),j+gn=n∧t12=.int .i64 j∧t5=.slice (some ⟨b,off,none⟩) L.length cap∧L.length≤cap∧wr.rangeAt b off (tnY.flat L)∧FoldI K j L∧Below w.heap.size w wr)
 case atStart=>exact⟨0,w.heap.size,0,0, [],by omega,rfl,rfl,Nat.le_refl _,fun j u h=>by simp [Lay.flat]at h,⟨Nat.le_refl _,List.nodup_nil,by simp⟩,(Below.refl _ _).alloc (Nat.le_refl _) _⟩
 case round=>
  obtain⟨G,rfl⟩:∃G,G=gk:=⟨_,rfl⟩;obtain⟨j,b2,off2,cap,L,hj,rfl,rfl,hcap,hr2,hF,BL0⟩:=hrel;have HJ:=zz hj;have HF:=zz hF;clear hj hF
  by_cases hlt:j < n
  ·obtain⟨x,hx⟩:∃x,K[j]? =some x:=⟨_,List.getElem?_eq_getElem (by rw [←HN.out];exact hlt)⟩;have hxm:(K.map (·.d))[j]? =some x.d:=by rw [List.getElem?_map,hx];rfl
   obtain⟨b,off,rfl,hr⟩:∃b off,a1=some ⟨b,off,none⟩∧w.rangeAt b off (edY.flat (K.map (·.d))):=by
    rcases HV.out.1 with⟨h1,h2⟩|⟨b,off,cap,h1,h2,h3⟩
    ·rw [h2]at hxm;cases hxm
    ·simp at h1;exact⟨b,off,h1.1,h3⟩
   have hrx:wr.rangeAt b (off+j*18) (edV x.d):=rangeAt_below (edY.elem hr j x.d hxm) BL0;have HX:=zz (List.mem_of_getElem? hx);have hltZ:(j:Int) < (n:Int):=by omega
   have HO:=zz (one_any L b2 off2 L.length cap x.d wr (by have:=HF.out.len;omega) rfl hcap hr2);clear hr hx hxm hr2 hcap
   go_wp2_with(first
    |refine wpList_load_mid rfl 45 _ rfl b (off+j*18) rfl _ _ hrx Tryz.underlying45 rfl (by kernel_rfl) ?_)
   with_reducible refine HO.out.mono ?_
   rintro e w4 ⟨b5,off5,c5,M,rfl,hc5,hr5,hOR,hb⟩;have BL:=BL0.trans (hb.mono BL0.size);have HF2:=zz (HF.out.step HSM.out HX.out hOR);clear hb hOR BL0
   go_wp2_with fail
   go_roundg (n - 1 - j)
   case rel=>exact⟨j+1,b5,off5,c5,M,by have:=HJ.out;omega,by go_num,rfl,hc5,hr5,HF2.out,BL⟩
   case measure=>have:=HJ.out;omega
  ·obtain rfl:j=n:=by have:=HJ.out;omega
   go_wp2_with fail
   go_ret
   exact⟨b2,off2,cap,L,rfl,hcap,hr2,by rw [←HN.out];exact HF.out,BL0⟩
theorem nil_cells {W:World} {q:Nat} {t:TypeId} {a b:Option Addr} {n c n' c':Nat} (h:W.heap[q]? =some (.cells #[.slice a n c,.slice b n' c'] t (0,0))):∀j u,W.cell? ⟨q,j,none⟩=some u→∃a n c,u=.slice a n c:=fun j u hu=>by
 rw [zc _ _ j _ _ _ h]at hu
 match j with
 |0=>simp at hu;exact⟨_,_,_,hu.symm⟩
 |1=>simp at hu;exact⟨_,_,_,hu.symm⟩
 |j+2=>simp at hu
set_option maxRecDepth 100000 in
theorem fold43_any (E:List EdP) (v:Value) (w:World) (hv:EditsW w v E) (hl:E.length≤40) (hsm:∀x∈E,EdSm x.d):
  Calls Tryz.prog 9 #[.agg #[.slice none 0 0,.slice none 0 0],v] w fun e w'=>∃(sn s:SlV) (K:List EdP) (L:List TnD) (R:List RegP),e=.returned (.agg #[.slice sn.a sn.len sn.cap,.slice s.a s.len s.cap])∧K.length≤E.length∧(∀x∈K,x∈E)∧tnY.Rd w' sn.v L∧FoldI K K.length L∧RRegs w' s.v R∧R.length≤K.length∧(∀r∈R,RegOk K K.length r)∧wsum R≤K.length∧Below w.heap.size w w':=by
 obtain⟨a1,n,c,rfl⟩:=hv.1.form;have BL:=((Below.refl w.heap.size w).alloc (Nat.le_refl _) (.cells #[.slice none 0 0,.slice none 0 0] 28)).alloc (by simp) (.cells #[.slice none 0 0,.slice none 0 0] 28);have R0:((w.alloc (.cells #[.slice none 0 0,.slice none 0 0] 28)).alloc (.cells #[.slice none 0 0,.slice none 0 0] 28)).heap[w.heap.size]? =_:=zo _ _ _ _ (zg _ _ _ rfl);have R4:((w.alloc (.cells #[.slice none 0 0,.slice none 0 0] 28)).alloc (.cells #[.slice none 0 0,.slice none 0 0] 28)).heap[w.heap.size+1]? =_:=zg _ _ _ (by simp);have HV:=zz hv;have HSM:=zz hsm;clear hv hsm;go_enter Tryz.func9,Tryz.ntmps9
 go_wp2_with fail
 generalize(w.alloc (.cells #[.slice none 0 0,.slice none 0 0] 28)).alloc (.cells #[.slice none 0 0,.slice none 0 0] 28)=W1 at*
 with_reducible refine(kept_any E (.slice a1 n c) W1 (HV.out.below BL) (by omega)).mono ?_
 rintro e w2 ⟨vK,K,rfl,hK,hKl,hKE,hb⟩;have R0:=(hb.block _ (zl R0)).trans R0;have R4:=(hb.block _ (zl R4)).trans R4;have BL:=BL.trans (hb.mono BL.size);obtain⟨aK,nK,cK,rfl⟩:=hK.1.form;have HK:=zz (And.intro hKl hKE);have H21:=zz (fun(W:World) (h:Below w2.heap.size w2 W)=>fold41_any K (.slice aK nK cK) W (hK.below h) (by omega) (fun x hx=>HSM.out x (hKE x hx)));have H22:=zz (fun(W:World) (h:Below w2.heap.size w2 W)=>fold42_any K (.slice aK nK cK) W (hK.below h) (by omega));clear hK hKl hKE hb HV;have B2:=(Below.refl w2.heap.size w2).drew;have BL:=BL.drew;have R0:w2.drew.heap[w.heap.size]? =_:=R0;have R4:w2.drew.heap[w.heap.size+1]? =_:=R4
 go_wp2_with fail
 refine wp_region_held_drew (S:=fun w'=>w'.heap[w.heap.size]? =some (.cells #[.slice none 0 0,.slice none 0 0] 28 (0,0))) (by kernel_rfl) R0 (fun hH=>?_);refine tk 0 (.pointer (some ⟨w.heap.size,0,none⟩)) rfl hH ?_;(try simp only [PU]);refine tk 1 (.slice none 0 0) rfl hH ?_ (hy:=fun _ hSw=>by(try dsimp only at hSw);have c0:=zc _ _ 0 _ _ _ hSw;have c1:=zc _ _ 1 _ _ _ hSw;go_simp);(try simp only [PU]);refine tk 2 (.slice aK nK cK) rfl hH ?_;(try simp only [PU]);refine tk 4 (.pointer (some ⟨w.heap.size,1,none⟩)) rfl hH ?_;(try simp only [PU]);refine tk 5 (.slice none 0 0) rfl hH ?_ (hy:=fun _ hSw=>by(try dsimp only at hSw);have c0:=zc _ _ 0 _ _ _ hSw;have c1:=zc _ _ 1 _ _ _ hSw;go_simp);(try simp only [PU]);refine tk 6 (.slice aK nK cK) rfl hH ?_;(try simp only [PU]);refine rd 3 rfl (fun K9 hK9=>?_);go_simp
 with_reducible refine(H21.out _ B2).mono ?_
 rintro e w4 ⟨b,off,cap,L,rfl,hcap,hr,hF,hb⟩;have R0:=(hb.block _ (zl R0)).trans R0;have R4:=(hb.block _ (zl R4)).trans R4;have BL:=BL.trans (hb.mono BL.size);have B2:=B2.trans (hb.mono B2.size);have hRd:tnY.Rd w4 (.slice (some ⟨b,off,none⟩) L.length cap) L:=.inr ⟨b,off,cap,rfl,hcap,hr⟩;clear hb hr hcap;refine hK9.out _ _ R0 (fun hH=>?_);clear hK9;(try simp only [PU]);refine rd 7 rfl (fun K9 hK9=>?_);go_simp
 with_reducible refine(H22.out _ B2).mono ?_
 rintro e w5 ⟨s,R,rfl,hRR,hRl,hRo,hws,hb⟩;have R0:=(hb.block _ (zl R0)).trans R0;have R4:=(hb.block _ (zl R4)).trans R4;have BL:=BL.trans (hb.mono BL.size);have hRd:=hRd.below hb;clear hb;refine hK9.out _ _ R0 (fun hH=>?_);clear hK9;(try simp only [PU]);refine tk 8 (.agg #[.slice (some ⟨b,off,none⟩) L.length cap,.slice s.a s.len s.cap]) rfl hH ?_;(try simp only [PU]);refine rd 9 rfl (fun K9 hK9=>?_);refine step_store_row rfl 28 _ _ rfl (w.heap.size+1) #[.slice none 0 0,.slice none 0 0] #[.slice (some ⟨b,off,none⟩) L.length cap,.slice s.a s.len s.cap] R4 rfl rfl (by kernel_rfl) rfl (by simp [Value.oneCell']) ?_;intro w9 h9 h9o h9s h9b;have R0:=(h9o w.heap.size (by omega)).trans R0;have hBut:But (w.heap.size+1) w5 w9:=⟨by omega,fun i _ hi=>h9o i hi⟩;have hRd:=hRd.but hBut (nil_cells R4) (fun x=>⟨_,rfl⟩);have hRR:=hRR.but hBut (nil_cells R4);have BL:=BL.trans (h9b w.heap.size (by omega));refine hK9.out _ _ R0 (fun hH=>?_);clear hK9;(try simp only [PU]);refine wpAnyH_done (by kernel_rfl) ?_ _;clear R0 hH
 go_wp2_with fail
 exact bodyPost_ret (results_cell_row Tryz.results9 _ _ (w.heap.size+1) 28 _ (0,0) _ rfl h9 Tryz.underlying28 rfl (by kernel_rfl)) rfl ⟨⟨some ⟨b,off,none⟩,L.length,cap⟩,s,K,L,R,rfl,HK.out.1,HK.out.2,hRd,hF,hRR,hRl,hRo,hws,BL⟩
end Go.Proofs.YteigcnamkfebgaaGreatDoor
