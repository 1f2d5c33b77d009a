/- Contracts of calls and loops; what is known of functions, put together. -/
import Derived.Test.YtblbaohcelldpaaW9
set_option linter.all false
namespace Go.Abs
open Go
noncomputable section
inductive Is(p:Prop):Prop
 |mk (h:p):Is p
theorem Is.out{p:Prop}(h:Is p):p:=by cases h;assumption
section
variable {P:Program} {G:Nat} {B:Base}
mutual
theorem vren_below{n0:Nat}{τ:Nat->Nat}(hτ:∀n,n<n0->τ n=n):∀v:Value,below n0 v=true->vren τ v=v
 | .pointer (some a),h=>by rw[vren,hτ _ (Nat.le_of_ble_eq_true h)]
 | .slice (some a) l c,h=>by rw[vren,hτ _ (Nat.le_of_ble_eq_true h)]
 | .map (some r),h=>by rw[vren,hτ _ (Nat.le_of_ble_eq_true h)]
 | .func f x y,h=>by
  simp only[below,Bool.and_eq_true]at h
  simp only[vren,vrenA_below hτ x h.1,vrenA_below hτ y h.2]
 | .iface t v,h=>by
  simp only[below]at h
  simp only[vren]
  split
  ·rfl
  ·rename_i ht;simp only[ht]at h;rw[vren_below hτ v h]
 | .agg c,h=>by simp only[below]at h;simp only[vren,vrenA_below hτ c h]
 | .tuple c,h=>by simp only[below]at h;simp only[vren,vrenA_below hτ c h]
 | .bool _,_=>rfl
 | .int _ _,_=>rfl
 | .float _ _,_=>rfl
 | .complex _ _ _,_=>rfl
 | .string _,_=>rfl
 | .pointer none,_=>rfl
 | .slice none _ _,_=>rfl
 | .map none,_=>rfl
 | .chan _,_=>rfl
 | .nilFunc,_=>rfl
 | .nilIface,_=>rfl
theorem vrenA_below{n0:Nat}{τ:Nat->Nat}(hτ:∀n,n<n0->τ n=n):∀c:Array Value,belowA n0 c=true->vrenA τ c=c
 |⟨l⟩,h=>by simp only[belowA]at h;simp only[vrenA,vrenL_below hτ l h]
theorem vrenL_below{n0:Nat}{τ:Nat->Nat}(hτ:∀n,n<n0->τ n=n):∀l:List Value,belowL n0 l=true->vrenL τ l=l
 | [],_=>rfl
 |v::l,h=>by
  simp only[belowL,Bool.and_eq_true]at h
  simp only[vrenL,vren_below hτ v h.1,vrenL_below hτ l h.2]
end
theorem pure_lift{f:FuncId}{args:List Value}{v:Value}(h:∀B,CallH P G B f args (hOf G [] []) (.returned v) (hOf G [] []))(ha:belowL G args=true)(hv:below G v=true)(B:Base)(H:Heap):CallH P G B f args H (.returned v) H:=by
 have hV:Valid P G ⟨f,args,[],[],.returned v,[],[]⟩:=⟨rfl,rfl,h⟩
 have:=hV.call (H:=H) (ns:=[]) rfl List.nodup_nil (fun i o h=>by simp at h) (fun x hx=>by cases hx) B
 have hτ:∀n,n<G->tau G [] H.next n=n:=fun n hn=>tau_lt hn
 simp only[eren,vrenL_below hτ args ha,vren_below hτ v hv]at this
 exact this
theorem liftO{f:FuncId}{args:List Value}{e:Ending}{ins upd:List (Option AObj)}{new:List AObj}(hu:upd.length=ins.length)(hhole:∀i:Nat,ins[i]?=some none->upd[i]?=some none)(hnew:new.all (·.own)=true)
  (hcall:∀B,CallH P G B f args (hOf G [] ins) e (hOf G [] (upd++new.map some))) {H:Heap} {ns:List Nat} (hl:ns.length=ins.length) (hnd:ns.Nodup) (hnlt:∀m∈ns,G<=m/\m<H.next)
  (hobj:∀(i:Nat) (o:AObj),ins[i]?=some (some o)->∃n:Nat,ns[i]?=some n/\H.get n=some (oren (tau G ns H.next) o)) (B:Base):
  CallH P G B f (vrenL (tau G ns H.next) args) H (eren (tau G ns H.next) e) (pushAll (putAll H ns (upd.map (·.map (oren (tau G ns H.next))))) (new.map (oren (tau G ns H.next)))):=by
 intro F w args' R ha
 have hGn:=R.next_le
 generalize hτ:tau G ns H.next=τ at*
 have hτlt:∀n,n<G->τ n=n:=fun n h=>by rw[←hτ];exact tau_lt h
 have hτin:∀n m:Nat,G<=n->ns[n-G]?=some m->τ n=m:=fun n m h h2=>by rw[←hτ];exact tau_in h h2
 have hτnew:∀n,G+ns.length<=n->τ n=H.next+(n-G-ns.length):=fun n h=>by rw[←hτ];exact tau_new h
 have hin:∀n,G<=n->n<G+ns.length->∃m,ns[n-G]?=some m/\τ n=m/\m∈ns/\m<H.next/\∀o,ins[n-G]?=some (some o)->H.get m=some (oren τ o):=by
  intro n h1 h2
  have h3:n-G<ns.length:=by omega
  have h4:ns[n-G]?=some ns[n-G]:=by simp[h3]
  have h5:ns[n-G]∈ns:=List.getElem_mem h3
  refine⟨_,h4,hτin n _ h1 h4,h5,(hnlt _ h5).2,fun o ho=>?_⟩
  obtain⟨m,g1,g2⟩:=hobj _ _ ho
  rw[h4]at g1;simp only[Option.some.injEq]at g1;subst g1;exact g2
 let B2:Base:=⟨w,fun i=>i<w.heap.size/\∀n o,n∈ns->H.get n=some o->o.own=true->blk F n≠some i,fun i h=>h.1,F.z,fun g vs hg=>by
  obtain⟨h1,t,fz,h2⟩:=B.tab g vs hg
  refine⟨⟨Nat.lt_of_lt_of_le (B.lt g h1) R.base,fun n o _ ho hown hblk=>?_⟩,t,fz,by rw[R.frame g h1];exact h2⟩
  obtain⟨b',g1,_,g3⟩:=R.blk_lt ho
  rw[hblk]at g1;simp only[Option.some.injEq]at g1;subst g1
  exact g3 hown h1⟩
 have hins:∀n o,(hOf G [] ins).get n=some o->G<=n/\n<G+ns.length/\ins[n-G]?=some (some o):=by
  intro n o h
  rw[hOf_get]at h
  split at h
  ·rename_i hg
   refine⟨hg.1,by omega,?_⟩
   rw[List.getElem?_eq_getElem (by omega)]at h ⊢
   simpa using h
  ·simp only[glTr,Tr.get_lf]at h;cases h
 have R2:Rel G (F.re τ) (hOf G [] ins) B2 w:=by
  constructor
  ·intro n o h
   obtain⟨h1,h2,h3⟩:=hins n o h
   obtain⟨m,g1,g2,hm,g4,g5⟩:=hin n h1 h2
   have h5:=R.obj m _ (g5 o h3)
   have h6:objR F B2 w m (oren τ o):=by
    exact objR_base h5 fun ho b hb _ hp=>hp.2 m _ hm (g5 _ h3) ho hb
   rw[←g2]at h6
   exact objR_ren h6
  ·intro n m o o' hn hm hne ho
   obtain⟨h1,h2,h3⟩:=hins n o hn
   obtain⟨h1',h2',h3'⟩:=hins m o' hm
   obtain⟨a,g1,g2,g3,g4,g5⟩:=hin n h1 h2
   obtain⟨a',g1',g2',g3',g4',g5'⟩:=hin m h1' h2'
   have hne':a≠a':=by
    intro e;subst e
    have h4:n-G<ns.length:=by omega
    have:=(List.getElem?_inj h4 hnd).1 (g1.trans g1'.symm)
    omega
   have:=R.inj a a' _ _ (g5 o h3) (g5' o' h3') hne' (by rw[oren_own];exact ho)
   simp only[blk,Nm.re,g2,g2']at this ⊢;exact this
  ·intro n hn
   have hn:G+ins.length<=n:=hn
   simp only[Nm.re,hτnew n (by omega)]
   exact R.fresh _ (by omega)
  ·intro g hg
   simp only[Nm.re,hτlt g hg];exact R.glob g hg
  ·exact Nat.le_refl _
  ·intro i _;rfl
  ·intro b i v hz
   refine⟨R.frozB hz fun hn hp=>absurd ⟨Nat.lt_of_lt_of_le (B.lt b hp) R.base,fun n o _ ho hown hblk=>by
    obtain⟨b',g1,_,g3⟩:=R.blk_lt ho
    rw[hblk]at g1;simp only[Option.some.injEq]at g1;subst g1
    exact g3 hown hp⟩ hn,fun n o hn ho=>?_⟩
   obtain⟨h1,h2,h3⟩:=hins n o hn
   obtain⟨a,g1,g2,g3,g4,g5⟩:=hin n h1 h2
   have:=(R.froz b i v hz).2 a _ (g5 o h3) (by rw[oren_own];exact ho)
   simp only[blk,Nm.re,g2]at this ⊢;exact this
  ·intro b i v hz _;exact hz
  ·rfl
  ·rfl
  ·rfl
 refine(hcall B2 _ w args' R2 ((VRL_ren _ _).1 ha)).mono fun e1 w' ⟨F3,hle,he,R3⟩=>?_
 -- the names behind the call
 let F4:Nm:=⟨fun n=>if H.next<=n then F3 (G+ns.length+(n-H.next))else open Classical in if h:∃i,ns[i]?=some n then F3 (G+Classical.choose h)else F n,F3.z⟩
 have hF4in:∀i m,ns[i]?=some m->F4 m=F3 (G+i):=by
  intro i m hi
  have hm:=(hnlt m (List.mem_of_getElem? hi)).2
  have hex:∃i,ns[i]?=some m:=⟨i,hi⟩
  simp only[F4];rw[if_neg (by omega),dif_pos hex]
  have h2:=Classical.choose_spec hex
  have hlt:i<ns.length:=(List.getElem?_eq_some_iff.1 hi).1
  have:=(List.getElem?_inj hlt hnd).1 (hi.trans h2.symm)
  rw[←this]
 have hF4out:∀n,n<H.next->n ∉ ns->F4 n=F n:=by
  intro n h hn
  simp only[F4];rw[if_neg (by omega),dif_neg (fun⟨i,hi⟩=>hn (List.mem_of_getElem? hi))]
 have hF4:∀n,F3 n=F4 (τ n):=by
  intro n
  rcases Nat.lt_or_ge n G with h|h
  ·have h1:F4 (τ n)=F n:=by
    rw[hτlt n h];exact hF4out n (by omega) (fun hm=>by have:=(hnlt n hm).1;omega)
   rw[h1]
   have:=R.glob n h
   rw[this];exact hle.nm n _ (by simp only[Nm.re,hτlt n h];exact this)
  ·rcases Nat.lt_or_ge n (G+ns.length)with h2|h2
   ·obtain⟨m,g1,g2,g3,g4,g5⟩:=hin n h h2
    rw[g2,hF4in _ _ g1];congr 1;omega
   ·have h1:F4 (τ n)=F3 (G+ns.length+(H.next+(n-G-ns.length)-H.next)):=by
     simp only[F4,hτnew n h2];rw[if_pos (by omega)]
    rw[h1];congr 1;omega
 have hF3:F3=F4.re τ:=Nm.ext_of (fun n=>hF4 n) rfl
 have hleF:Nm.le F F4:=by
  refine⟨?_,hle.zs⟩
  intro n x hx
  have hlt:n<H.next:=by
   rcases Nat.lt_or_ge n H.next with h|h
   ·exact h
   ·rw[R.fresh n h]at hx;cases hx
  by_cases hm:n∈ns
  ·obtain⟨i,hi⟩:=List.getElem?_of_mem hm
   have hil:i<ns.length:=(List.getElem?_eq_some_iff.1 hi).1
   rw[hF4in i n hi]
   refine hle.nm _ _ ?_
   show F (τ (G+i))=some x
   rw[hτin (G+i) n (by omega) (by rw[Nat.add_sub_cancel_left];exact hi)];exact hx
  ·rw[hF4out n hlt hm];exact hx
 refine⟨F4,hleF,(EnR_ren _ _).2 (by rw[←hF3];exact he),?_⟩
 rw[hF3]at R3
 -- what the heap holds
 have hul:ns.length=(upd.map (·.map (oren τ))).length:=by rw[List.length_map];omega
 have hcases:∀n o,(pushAll (putAll H ns (upd.map (·.map (oren τ)))) (new.map (oren τ))).get n=some o->
   (∃k p,n=τ k/\o=oren τ p/\(hOf G [] (upd++new.map some)).get k=some p/\((k<G+ns.length/\n∈ns)∨(G+ns.length<=k/\H.next<=n/\p.own=true)))∨(n ∉ ns/\n<H.next/\H.get n=some o):=by
  intro n o h
  rw[pushAll_get,putAll_next]at h
  split at h
  ·rename_i hr
   left
   rw[List.getElem?_map]at h
   rw[List.length_map]at hr
   cases hc:new[n-H.next]? with
   |none=>rw[hc]at h;cases h
   |some p=>
    rw[hc]at h;simp only[Option.map_some,Option.some.injEq]at h
    refine⟨G+ns.length+(n-H.next),p,?_,h.symm,?_,.inr ⟨by omega,hr.1,?_⟩⟩
    ·rw[hτnew _ (by omega)];omega
    ·rw[hOf_get,if_pos (by rw[List.length_append,List.length_map];omega),List.getElem?_append_right (by omega),List.getElem?_map]
     have:G+ns.length+(n-H.next)-G-upd.length=n-H.next:=by omega
     rw[this,hc];rfl
    ·exact List.all_eq_true.1 hnew p (List.mem_of_getElem? hc)
  ·rename_i hr
   by_cases hm:n∈ns
   ·left
    obtain⟨i,hi⟩:=List.getElem?_of_mem hm
    have hil:i<ns.length:=(List.getElem?_eq_some_iff.1 hi).1
    rw[(putAll_get ns _ H n hul hnd).1 i hi,List.getElem?_map]at h
    have hiu:i<upd.length:=by omega
    rw[List.getElem?_eq_getElem hiu]at h
    simp only[Option.map_some,Option.getD_some,Option.map_eq_some_iff]at h
    obtain⟨p,hp,e⟩:=h
    refine⟨G+i,p,(hτin (G+i) n (by omega) (by rw[Nat.add_sub_cancel_left];exact hi)).symm,e.symm,?_,.inl ⟨by omega,hm⟩⟩
    rw[hOf_get,if_pos (by rw[List.length_append,List.length_map];omega),Nat.add_sub_cancel_left,List.getElem?_append_left hiu,List.getElem?_eq_getElem hiu]
    simpa using hp
   ·right
    rw[(putAll_get ns _ H n hul hnd).2 hm]at h
    exact⟨hm,R.live_lt h,h⟩
 have hprot:∀b,¬B2.prot b->w.heap.size<=b∨∃n o,n∈ns/\H.get n=some o/\o.own=true/\blk F n=some b:=by
  intro b hb
  rcases Nat.lt_or_ge b w.heap.size with h|h
  ·right
   refine Classical.byContradiction fun hc=>hb ⟨h,fun n o hn ho hown hblk=>hc ⟨n,o,hn,ho,hown,hblk⟩⟩
  ·exact .inl h
 have hnprot:∀b,¬B2.prot b->¬B.prot b:=by
  intro b hb hB
  rcases hprot b hb with h|⟨n,o,h1,h2,h3,h4⟩
  ·have:=B.lt b hB;have:=R.base;omega
  ·obtain⟨b',g1,_,g3⟩:=R.blk_lt h2
   rw[h4]at g1;simp only[Option.some.injEq]at g1;subst g1
   exact g3 h3 hB
 have hother:∀n o,n ∉ ns->H.get n=some o->∀b,blk F n=some b->B2.prot b:=by
  intro n o hn ho b hb
  obtain⟨b',g1,g2,_⟩:=R.blk_lt ho
  rw[hb]at g1;simp only[Option.some.injEq]at g1;subst g1
  refine⟨g2,fun m o' hm ho' hown hblk=>?_⟩
  have:=R.inj m n o' o ho' ho (fun e=>hn (e ▸ hm)) hown
  exact this (by rw[hblk,hb])
 constructor
 ·intro n o h
  rcases hcases n o h with⟨k,p,e1,e2,e3,e4⟩ | ⟨h1,h2,h3⟩
  ·subst e1;subst e2
   have h5:=R3.obj k p e3
   have h6:objR (F4.re τ) B w' k p:=by
    exact objR_base h5 fun _ b _ hb=>hnprot b hb
   exact objR_ren' h6
  ·have h5:=R.obj n o h3
   have h6:objR F B w' n o:=objR_other h5 fun b hb=>R3.frame b (hother n o h1 h3 b hb)
   exact objR_mono hleF h6
 ·intro n m o o' hn hm hne ho
  have hA:∀n o,(∃k p,n=τ k/\o=oren τ p/\(hOf G [] (upd++new.map some)).get k=some p)->∃b,blk F4 n=some b/\(o.own=true->¬B2.prot b):=by
   rintro n o ⟨k,p,e1,e2,e3⟩
   subst e1;subst e2
   obtain⟨b,g1,_,g3⟩:=R3.blk_lt e3
   exact⟨b,g1,fun h=>g3 (by rw[oren_own]at h;exact h)⟩
  rcases hcases n o hn with⟨k,p,e1,e2,e3,e4⟩ | ⟨h1,h2,h3⟩<;>rcases hcases m o' hm with⟨k',p',e1',e2',e3',e4'⟩ | ⟨h1',h2',h3'⟩
  ·subst e1;subst e2;subst e1'
   exact R3.inj k k' p p' e3 e3' (fun e=>hne (by rw[e])) (by rw[oren_own]at ho;exact ho)
  ·obtain⟨b,hb,hown⟩:=hA n o ⟨k,p,e1,e2,e3⟩
   obtain⟨b',hb',hlt',_⟩:=R.blk_lt h3'
   intro e
   rw[hb]at e
   simp only[blk,hF4out m h2' h1']at e
   have e':blk F m=some b:=e.symm
   exact hown ho (hother m o' h1' h3' b e')
  ·obtain⟨b',hb',hown'⟩:=hA m o' ⟨k',p',e1',e2',e3'⟩
   intro e
   simp only[blk,hF4out n h2 h1]at e
   have e':blk F n=some b':=by rw[←hb'];exact e
   -- n is ours to write; the callee's m lies in another block
   have hp:=hother n o h1 h3 b' e'
   rcases e4' with⟨hk,hmem⟩ | ⟨_,_,hown2⟩
   ·-- m is one of the names handed in, in n's block
    have hkG:G<=k':=by
     rcases Nat.lt_or_ge k' G with c|c
     ·rw[hOf_get,if_neg (by omega)]at e3'
      simp only[glTr,Tr.get_lf]at e3';cases e3'
     ·exact c
    obtain⟨a,g1,g2,g3,g4,g5⟩:=hin k' hkG hk
    have hupd:upd[k' - G]?=some (some p'):=by
     rw[hOf_get,if_pos (by rw[List.length_append,List.length_map];omega),List.getElem?_append_left (by omega)]at e3'
     rw[List.getElem?_eq_getElem (by omega)]at e3' ⊢
     simpa using e3'
    have hio:∃o2,ins[k' - G]?=some (some o2):=by
     have hlt:k' - G<ins.length:=by omega
     cases ho2:ins[k' - G]with
     |none=>
      have:=hhole (k' - G) (by rw[List.getElem?_eq_getElem hlt,ho2])
      rw[hupd]at this;cases this
     |some o2=>exact⟨o2,by rw[List.getElem?_eq_getElem hlt,ho2]⟩
    obtain⟨o2,ho2⟩:=hio
    have hlive:=g5 o2 ho2
    rw[e1',g2]at hb'
    have hex:∃x,F a=some x:=by
     obtain⟨b2,q1,_⟩:=R.blk_lt hlive
     cases hFa:F a with
     |none=>simp[blk,hFa]at q1
     |some x=>exact⟨x,rfl⟩
    obtain⟨x,hx⟩:=hex
    have hFa:blk F a=some b':=by
     simp only[blk,hleF.nm a x hx]at hb'
     simp only[blk,hx];exact hb'
    have:=R.inj n a o _ h3 hlive (fun e=>h1 (e ▸ g3)) ho
    exact this (by rw[e',hFa])
   ·exact hown' (by rw[e2',oren_own];exact hown2) hp
  ·have:=R.inj n m o o' h3 h3' hne ho
   simp only[blk,hF4out n h2 h1,hF4out m h2' h1']at this ⊢;exact this
 ·intro n hn
  rw[pushAll_next,putAll_next,List.length_map]at hn
  simp only[F4];rw[if_pos (by omega)]
  have:=R3.fresh (G+ns.length+(n-H.next)) (by show G+(upd++new.map some).length<=_;rw[List.length_append,List.length_map];omega)
  have this:F4 (τ (G+ns.length+(n-H.next)))=none:=this
  rw[←hF4]at this;exact this
 ·intro g hg
  exact hleF.nm _ _ (R.glob g hg)
 ·have:=R.base;have:=R3.base
  have e:B2.w.heap.size=w.heap.size:=rfl
  omega
 ·intro i hi
  have h1:=B.lt i hi
  have h2:=R.base
  have h3:B2.prot i:=⟨by omega,fun n o _ ho hown hblk=>by
   obtain⟨b,g1,_,g3⟩:=R.blk_lt ho
   rw[hblk]at g1;simp only[Option.some.injEq]at g1;subst g1
   exact g3 hown hi⟩
  rw[R3.frame i h3];exact R.frame i hi
 ·intro b i v hz
  refine⟨R3.frozB hz fun hn hp c t fz hw=>R.un b i v (R3.zprot b i v hz hp) hn c t fz (by rw[←R3.frame b hp];exact hw),fun n o hn ho=>?_⟩
  rcases hcases n o hn with⟨k,p,e1,e2,e3,e4⟩ | ⟨h1,h2,h3⟩
  ·subst e1;subst e2
   exact(R3.froz b i v hz).2 k p e3 (by rw[oren_own]at ho;exact ho)
  ·intro e
   simp only[blk,hF4out n h2 h1]at e
   have hp:=hother n o h1 h3 b e
   exact(R.froz b i v (R3.zprot b i v hz hp)).2 n o h3 ho e
 ·intro b i v hz hp
  have h1:=B.lt b hp
  have h2:=R.base
  have h3:B2.prot b:=⟨by omega,fun n o _ ho hown hblk=>by
   obtain⟨b',g1,_,g3⟩:=R.blk_lt ho
   rw[hblk]at g1;simp only[Option.some.injEq]at g1;subst g1
   exact g3 hown hp⟩
  exact R.zprot b i v (R3.zprot b i v hz h3) hp
 ·rw[R3.os];exact R.os
 ·rw[R3.out];exact R.out
 ·rw[R3.tape];exact R.tape
def retQ(G:Nat)(K:Value->List (Option AObj)->Prop):Res->Prop
 | .en (.returned v) _ h=>match Nat.ble G h.next with
  |true=>K v (objsOf G h)
  |false=>False
 |_=>False
theorem call_objs{f:FuncId}{args:List Value}{H H':Heap}{e:Ending}(hle:G<=H'.next)(h:CallH P G B f args H e H'):CallH P G B f args H e (hOf G [] (objsOf G H')):=by
 intro F w args' R ha
 refine(h F w args' R ha).mono fun e' w' ⟨F',h1,h2,R'⟩=>⟨F',h1,h2,R'.part (fun n o hn=>?_) ?_⟩
 ·rw[hOf_get]at hn
  split at hn
  ·rename_i hr
   rw[objsOf_get]at hn
   split at hn
   ·simp only[Option.getD_some]at hn
    rw[←hn];congr 1;omega
   ·cases hn
  ·simp only[glTr,Tr.get_lf]at hn;cases hn
 ·simp only[hOf,objsOf_len];omega
theorem call_ok(hP:okProg P G=true){W:How}(hkn:KnOk P G W)(hlp:LpOk P G W){n:Nat}{f:FuncId}{args:List Value}{H:Heap}{K:Value->List (Option AObj)->Prop}(h:wpe P (real P) W n (.call f args H) (retQ G K)):
  ∃v objs,K v objs/\∀B,CallH P G B f args H (.returned v) (hOf G [] objs):=by
 obtain⟨r,h1,h2⟩:=wpe_ok hP hkn hlp n _ _ h
 unfold retQ at h2
 split at h2
 ·rename_i v u h'
  split at h2
  ·rename_i hle
   exact⟨v,objsOf G h',h2,fun B=>call_objs (Nat.le_of_ble_eq_true hle) (h1 B)⟩
  ·exact h2.elim
 ·exact h2.elim
theorem call_wk{f:FuncId}{args:List Value}{ins:List (Option AObj)}{v v':Value}{objs objs':List (Option AObj)}
  (h:CallH P G B f args (hOf G [] ins) (.returned v) (hOf G [] objs)) (hn:Wk G (G+ins.length) [v] objs [v'] objs'):
  CallH P G B f args (hOf G [] ins) (.returned v') (hOf G [] objs'):=by
 intro F w args' R ha
 refine(h F w args' R ha).mono fun e' w' ⟨F',h1,h2,R'⟩=>?_
 obtain⟨F2,k1,k2,k3⟩:=hn.2 B F' w' R'
 refine⟨F2,⟨fun n x hx=>?_,fun b i v e=>k1.zs b i v (h1.zs b i v e)⟩,?_,k2⟩
 ·have hlt:n<G+ins.length:=by
   rcases Nat.lt_or_ge n (G+ins.length)with c|c
   ·exact c
   ·have:=R.fresh n c;rw[this]at hx;cases hx
  rcases k1.nm n hlt with e|e
  ·rw[e];exact h1.nm n x hx
  ·rw[h1.nm n x hx]at e;cases e
 ·simp only[EnR]at h2 ⊢
  obtain⟨v2,h3,h4⟩:=h2
  exact⟨v2,k3 0 v v' v2 rfl rfl h3,h4⟩
def roundQ(G:Nat)(live live2:List Nat)(N:Nat)(ds:List Deferred)(back:List Value->List (Option AObj)->Prop)(out:Exit->List Value->List (Option AObj)->Prop):Res->Prop
 | .ex e s=>match Nat.beq s.ts.n N&&Nat.ble G s.h.next with
  |true=>s.ds=ds/\match e with
   | .normal=>back (live.map s.ts.get) (objsOf G s.h)
   | .exit id=>out (.exit id) (live2.map s.ts.get) (objsOf G s.h)
   | .ret=>out .ret (live2.map s.ts.get) (objsOf G s.h)
   | .panic c=>flatCh c=true/\out (.panic c) (live2.map s.ts.get) (objsOf G s.h)
   |_=>False
  |false=>False
 |_=>False
theorem round_ok{α:Type}{k0 N:Nat}{live live2:List Nat}{ds:List Deferred}{m:α->Nat}{I:α->List Value×List (Option AObj)}{R:α->Exit->List Value->List (Option AObj)->Prop}{a:α}{r:Res}
  {back:List Value->List (Option AObj)->Prop} {out:Exit->List Value->List (Option AObj)->Prop}
  (hb:∀vals objs,back vals objs->∃a',m a' < m a/\Wk G (G+k0) vals objs (I a').1 (I a').2/\∀e v o,R a' e v o->R a e v o)
  (ho:∀e vals objs,out e vals objs->∃v o,Wk G (G+k0) vals objs v o/\R a e v o)
  (h:roundQ G live live2 N ds back out r):RoundQ G k0 N live live2 ds m I R a r:=by
 cases r with
 |en _ _ _=>exact h.elim
 |ex e s=>
  simp only[roundQ]at h
  split at h
  ·rename_i hc
   simp only[Bool.and_eq_true]at hc
   obtain⟨hds,h⟩:=h
   refine⟨Nat.le_of_ble_eq_true hc.2,Nat.eq_of_beq_eq_true hc.1,hds,?_⟩
   cases e<;>try exact h.elim
   ·exact hb _ _ h
   ·exact⟨rfl,ho _ _ _ h⟩
   ·exact⟨rfl,ho _ _ _ h⟩
   ·exact⟨h.1,ho _ _ _ h.2⟩
  ·exact h.elim
def SumOk(P:Program)(G:Nat)(f:FuncId)(S:List Value->Heap->VK->Prop):Prop:=∀args H K,S args H K->∃v H',(∀B,CallH P G B f args H (.returned v) H')/\K v H'
def lookN{α:Type}:List (Nat×α)->Nat->Option α
 | [],_=>none
 |x::l,n=>match Nat.beq x.1 n with
  |true=>some x.2
  |false=>lookN l n
theorem lookN_mem{α:Type}:∀(l:List (Nat×α)) (n:Nat) (a:α),lookN l n=some a->(n,a)∈l
 | [],n,a,h=>by cases h
 |x::l,n,a,h=>by
  unfold lookN at h
  split at h
  ·rename_i e
   have e:=Nat.eq_of_beq_eq_true e
   simp only[Option.some.injEq]at h;subst h;subst e
   exact List.mem_cons_self ..
  ·exact List.mem_cons_of_mem _ (lookN_mem l n a h)
abbrev KnL:=List (FuncId×(List Value->Heap->VK->Prop))
abbrev PuL:=List (FuncId×(List Value->(Value->Prop)->Prop))
abbrev LpS:=Code->Nat->List Value->List Deferred->Heap->(Res->Prop)->Prop
abbrev LpL:=List (Nat×(Nat×(List Nat×LpS)))
def lookP:LpL->Nat->Nat->Option (List Nat×LpS)
 | [],_,_=>none
 |x::l,k,n=>match Nat.beq x.1 k&&Nat.beq x.2.1 n with
  |true=>some x.2.2
  |false=>lookP l k n
theorem lookP_mem:∀(l:LpL) (k n:Nat) (a:List Nat×LpS),lookP l k n=some a->(k,n,a)∈l
 | [],k,n,a,h=>by cases h
 |x::l,k,n,a,h=>by
  unfold lookP at h
  split at h
  ·rename_i e
   simp only[Bool.and_eq_true]at e
   have e1:=Nat.eq_of_beq_eq_true e.1
   have e2:=Nat.eq_of_beq_eq_true e.2
   simp only[Option.some.injEq]at h;subst h;subst e1;subst e2
   exact List.mem_cons_self ..
  ·exact List.mem_cons_of_mem _ (lookP_mem l k n a h)
def cfOf:List (Nat×Nat)->Nat->Option Nat->Bool
 | [],_,_=>false
 |x::l,n,d=>match d with
  |some d=>match Nat.beq x.1 n&&Nat.beq x.2 d with
   |true=>true
   |false=>cfOf l n (some d)
  |none=>false
def howOf(sy:Sy)(sp:Nat->Bool)(kn:KnL)(lp:LpL)(pu:PuL)(cf:List (Nat×Nat)):How:=⟨sy,sp,lookN kn,lookP lp,lookN pu,cfOf cf⟩
theorem kn_ok{sy:Sy}{sp:Nat->Bool}{kn:KnL}{lp:LpL}{pu:PuL}{cf:List (Nat×Nat)}(h:∀x∈kn,SumOk P G x.1 x.2)(h':∀x∈pu,PuOk P G x.1 x.2):KnOk P G (howOf sy sp kn lp pu cf):=
 ⟨fun f S hS=>h _ (lookN_mem kn f S hS),fun f S hS=>h' _ (lookN_mem pu f S hS)⟩
def LoopOk(P:Program)(G:Nat)(live:List Nat)(S:LpS):Prop:=
 ∀c n vals ds h Q,S c n vals ds h Q->∃r,(∀B,Holds P G B (.loop false c ⟨tmOf n live vals,ds,h,.run⟩) r)/\Q r
theorem lp_ok{sy:Sy}{sp:Nat->Bool}{kn:KnL}{lp:LpL}{pu:PuL}{cf:List (Nat×Nat)}(h:∀x∈lp,LoopOk P G x.2.2.1 x.2.2.2):LpOk P G (howOf sy sp kn lp pu cf):=fun k n live S hS=>h _ (lookP_mem lp k n _ hS)
theorem holds_objs{c:Code}{n:Nat}{live:List Nat}{vals:List Value}{ds:List Deferred}{h:Heap}{r:Res}(hle:G<=h.next)
  (hh:Holds P G B (.loop false c ⟨tmOf n live vals,ds,hOf G [] (objsOf G h),.run⟩) r):Holds P G B (.loop false c ⟨tmOf n live vals,ds,h,.run⟩) r:=by
 cases r with
 |en _ _ _=>exact hh.elim
 |ex e s2=>
  intro c0 rest F a cs w hok hs
  exact hh c0 rest F a cs w hok ⟨hs.1.toObjs hle,hs.2⟩
theorem lp_rule(hP:okProg P G=true){W:How}(hkn:KnOk P G W)(hlp:LpOk P G W){α:Type}{k0 N fuel:Nat}{live live2:List Nat}{ds:List Deferred}(hds:belowD (G+k0) ds=true)(m:α->Nat)(I:α->List Value×List (Option AObj))
  (R:α->Exit->List Value->List (Option AObj)->Prop) {c:Code}
  (hbody:∀a,Is (wpe P (real P) W fuel (.code false c (stOf G N live ds (I a))) (roundQ G live live2 N ds
   (fun vals objs=>∃a',m a' < m a/\Wk G (G+k0) vals objs (I a').1 (I a').2/\∀e v o,R a' e v o->R a e v o)
   (fun e vals objs=>∃v o,Wk G (G+k0) vals objs v o/\R a e v o))))
  (a:α) {vals:List Value} {h:Heap} (hk:(objsOf G h).length=k0) (hs:Wk G (G+k0) vals (objsOf G h) (I a).1 (I a).2) (hle:G<=h.next):
  ∃e v o,R a e v o/\∀B,Holds P G B (.loop false c ⟨tmOf N live vals,ds,h,.run⟩) (.ex e (stOf G N live2 ds (v,o))):=by
 obtain⟨e,v,o,h1,h2⟩:=loop_rule hds (R:=R) (m:=m) (fun a=>by
  obtain⟨r,h1,h2⟩:=wpe_ok hP hkn hlp _ _ _ (hbody a).out
  exact⟨r,h1,round_ok (fun vals objs q=>q) (fun e vals objs q=>q) h2⟩) a hk hs
 exact⟨e,v,o,h1,fun B=>holds_objs hle (h2 B)⟩
end
end
end Go.Abs
namespace Go.Abs
open Go
noncomputable section
section
variable {P:Program} {k:IntKind} {a b:Int} {X Y:Prop}
theorem n_lss(h1:a<b->X)(h2:¬a<b->Y):(real P).cmp .lss k a k b X Y:=⟨decide (a<b),by simp[intBin],fun h=>h1 (by simpa using h),fun h=>h2 (by simpa using h)⟩
theorem n_leq(h1:a<=b->X)(h2:¬a<=b->Y):(real P).cmp .leq k a k b X Y:=⟨decide (a<=b),by simp[intBin],fun h=>h1 (by simpa using h),fun h=>h2 (by simpa using h)⟩
theorem n_gtr(h1:b<a->X)(h2:¬b<a->Y):(real P).cmp .gtr k a k b X Y:=⟨decide (a > b),by simp[intBin],fun h=>h1 (by simpa using h),fun h=>h2 (by simpa using h)⟩
theorem n_geq(h1:b<=a->X)(h2:¬b<=a->Y):(real P).cmp .geq k a k b X Y:=⟨decide (a≥b),by simp[intBin],fun h=>h1 (by simpa using h),fun h=>h2 (by simpa using h)⟩
theorem n_eql(h1:a=b->X)(h2:¬a=b->Y):(real P).cmp .eql k a k b X Y:=⟨decide (a=b),by simp[intBin],fun h=>h1 (by simpa using h),fun h=>h2 (by simpa using h)⟩
theorem n_neq(h1:¬a=b->X)(h2:a=b->Y):(real P).cmp .neq k a k b X Y:=⟨!decide (a=b),by simp[intBin],fun h=>h1 (by simpa using h),fun h=>h2 (by simpa using h)⟩
theorem wrap64{n:Int}(h1 : -9223372036854775808<=n)(h2:n<=9223372036854775807):wrapA .i64 n=n:=by
 unfold wrapA;simp[h1,h2]
theorem n_add{K:Int->Prop}(h1 : -9223372036854775808<=a+b)(h2:a+b<=9223372036854775807)(hk:K (a+b)):(real P).ari .add .i64 a .i64 b K:=⟨_,by simp[intBin,wrap64 h1 h2],hk⟩
theorem n_mul{K:Int->Prop}(h1 : -9223372036854775808<=a*b)(h2:a*b<=9223372036854775807)(hk:K (a*b)):(real P).ari .mul .i64 a .i64 b K:=⟨_,by simp[intBin,wrap64 h1 h2],hk⟩
theorem n_slen{s:ByteArray}{K:Int->Prop}(hk:K s.data.toList.length):(real P).slen s K:=hk
theorem n_idx{len off n:Nat}{i:Int}{K:Nat->Prop}(j:Nat)(h:i=j)(hl:j<len)(hk:K (off+j*n)):(real P).idx len off n i K:=⟨j,h,hl,hk⟩
theorem n_rdI{vs:List Value}{off:Nat}{z:Int}{K:Int->Prop}(h:vs[off]?=some (.int k z))(hk:K z):(real P).rdI k vs off K:=⟨z,h,hk⟩
theorem n_rdS{vs:List Value}{off:Nat}{z:ByteArray}{K:ByteArray->Prop}(h:vs[off]?=some (.string z))(hk:K z):(real P).rdS vs off K:=⟨z,h,hk⟩
theorem n_wr{vs l:List Value}{off n:Nat}{K:List Value->Prop}(hl:l.length=n)(hc:l.all isCell=true)(hlt:off+n<=vs.length)(hk:K (splice vs off l)):(real P).wr vs off n l K:=
 ⟨_,hl,hc,hlt,rfl,hk⟩
theorem n_scmp_eq{x y:ByteArray}(h1:x.data.toList=y.data.toList->X)(h2:¬x.data.toList=y.data.toList->Y):(real P).scmp .eql x y X Y:=
 ⟨x.data.toList==y.data.toList,by simp[strBin],fun h=>h1 (by simpa using h),fun h=>h2 (by simpa using h)⟩
theorem n_scmp_ne{x y:ByteArray}(h1:¬x.data.toList=y.data.toList->X)(h2:x.data.toList=y.data.toList->Y):(real P).scmp .neq x y X Y:=
 ⟨!(x.data.toList==y.data.toList),by simp[strBin],fun h=>h1 (by simpa using h),fun h=>h2 (by simpa using h)⟩
theorem bytes_ext{x y:ByteArray}(h:x.data.toList=y.data.toList):x=y:=by
 apply ByteArray.ext;exact Array.ext' h
theorem setAll_len(l:List Value):∀(vs:List Value) (i:Nat),(setAll vs i l).length=vs.length:=by
 induction l with
 |nil=>intro vs i;rfl
 |cons v l ih=>intro vs i;simp only[setAll,ih,List.length_set]
theorem real_conv{src dst:TypeId}{ks kd:IntKind}{K:Int->Prop}(hs:P.underlying src=some (.int ks))(hd:P.underlying dst=some (.int kd))(hk:K (kd.wrap a)):(real P).conv src dst k a kd K:=by
 refine⟨kd.wrap a,fun H=>?_,hk⟩
 have h1:pureSem P (convert src dst (.int k a))=some (.int kd (kd.wrap a)):=by
  simp only[convert,pureSem_bind,pureSem_underlying hs,pureSem_underlying hd,Option.bind_some]
  rfl
 unfold aConvert
 rw[hs,hd]
 simp only[plain,pureVal,h1]
theorem wk_pure{G:Nat}{vals:List Value}{objs:List (Option AObj)}(h:belowL G vals=true):Wk G G vals objs vals []:=by
 have hn:Names G 0 [] (G+objs.length) vals objs vals []:=by
  refine⟨?_,rfl,List.nodup_nil,fun x hx=>(by cases hx),by omega,fun i o hi=>by simp at hi⟩
  have:=vrenL_below (n0:=G) (τ:=tau (G+0) [] (G+objs.length)) (fun n hn=>tau_lt (by omega)) vals h
  have e:∀(τ:Nat->Nat) (l:List Value),vrenL τ l=l.map (vren τ):=by
   intro τ l
   induction l with
   |nil=>rfl
   |cons v l ih=>simp only[vrenL,List.map_cons,ih]
  rw[e]at this;exact this.symm
 exact wk_names hn
def PQ(v:Value):Value->List (Option AObj)->Prop:=fun v' objs=>Wk 100 100 [v'] objs [v] []
theorem PQ.pure{v:Value}{objs:List (Option AObj)}(h:below 100 v=true):PQ v v objs:=wk_pure (by simp only[belowL,h];rfl)
theorem pu_mk(hP:okProg P 100=true){W:How}(hkn:KnOk P 100 W)(hlp:LpOk P 100 W){f:FuncId}{args:List Value}{v:Value}{n:Nat}(ha:belowL 100 args=true)(hv:below 100 v=true)
  (h:Is (wpe P (real P) W n (.call f args (hOf 100 [] [])) (retQ 100 (PQ v)))) (B:Base) (H:Heap):CallH P 100 B f args H (.returned v) H:=by
 obtain⟨v',objs,h1,h2⟩:=call_ok hP hkn hlp h.out
 exact pure_lift (fun B=>call_wk (ins:=[]) (h2 B) h1) ha hv B H
theorem PQ.of{v v':Value}{objs:List (Option AObj)}(e:v'=v)(h:below 100 v=true):PQ v v' objs:=by subst e;exact PQ.pure h
theorem kn_none{sy:Sy}{sp:Nat->Bool}{lp:LpL}{cf:List (Nat×Nat)}:KnOk P 100 (howOf sy sp [] lp [] cf):=kn_ok (fun x hx=>by cases hx) (fun x hx=>by cases hx)
theorem kn_pu{sy:Sy}{sp:Nat->Bool}{lp:LpL}{pu:PuL}{cf:List (Nat×Nat)}(h':∀x∈pu,PuOk P 100 x.1 x.2):KnOk P 100 (howOf sy sp [] lp pu cf):=kn_ok (fun x hx=>by cases hx) h'
theorem lp_none{sy:Sy}{sp:Nat->Bool}{kn:KnL}{pu:PuL}{cf:List (Nat×Nat)}:LpOk P 100 (howOf sy sp kn [] pu cf):=lp_ok fun x hx=>by cases hx
theorem bytes_toList(l:List UInt8):(bytesOf l).data.toList=l:=rfl
theorem bytes_eta(s:ByteArray):bytesOf s.data.toList=s:=by apply bytes_ext;rfl
theorem n_eqN{m d:Nat}(h1:m=d->X)(h2:m≠d->Y):(real P).cmp .eql k (m:Int) k (d:Int) X Y:=n_eql (fun h=>h1 (by omega)) (fun h=>h2 (by omega))
theorem n_neN{m d:Nat}(h1:m≠d->X)(h2:m=d->Y):(real P).cmp .neq k (m:Int) k (d:Int) X Y:=n_neq (fun h=>h1 (by omega)) (fun h=>h2 (by omega))
theorem n_ltN{m d:Nat}(h1:m<d->X)(h2:d<=m->Y):(real P).cmp .lss k (m:Int) k (d:Int) X Y:=n_lss (fun h=>h1 (by omega)) (fun h=>h2 (by omega))
theorem n_leN{m d:Nat}(h1:m<=d->X)(h2:d<m->Y):(real P).cmp .leq k (m:Int) k (d:Int) X Y:=n_leq (fun h=>h1 (by omega)) (fun h=>h2 (by omega))
theorem n_gtN{m d:Nat}(h1:d<m->X)(h2:m<=d->Y):(real P).cmp .gtr k (m:Int) k (d:Int) X Y:=n_gtr (fun h=>h1 (by omega)) (fun h=>h2 (by omega))
theorem n_sat{s:ByteArray}{i:Int}{K:Int->Prop}(j:Nat){b:UInt8}(hi:i=j)(hb:s.data.toList[j]?=some b)(hk:K (b.toNat:Int)):(real P).sat s i K:=⟨j,b,hi,hb,hk⟩
theorem bytes_size(s:ByteArray):s.size=s.data.toList.length:=by cases s;simp[ByteArray.size]
theorem n_ssl_from{s:ByteArray}{K:ByteArray->Prop}(l:Nat){i:Int}(hi:i=l)(hl:l<=s.data.toList.length)(hk:K (bytesOf (s.data.toList.drop l))):(real P).ssl s (some i) none K:=by
 refine⟨l,s.size,s.size,?_,?_⟩
 ·subst hi
  simp only[Option.map_some,Option.map_none,bnds,bnd]
  rw[show(decide (0<=(l:Int))&&Nat.ble (l:Int).toNat s.size)=true by rw[bytes_size];simp;exact hl]
  simp only[Int.toNat_natCast,Nat.ble_eq_true_of_le (Nat.le_refl s.size)]
 ·rw[bytes_size,List.take_of_length_le (by simp)];exact hk
theorem n_ssl_to{s:ByteArray}{K:ByteArray->Prop}(h:Nat){i:Int}(hi:i=h)(hl:h<=s.data.toList.length)(hk:K (bytesOf (s.data.toList.take h))):(real P).ssl s none (some i) K:=by
 refine⟨0,h,s.size,?_,?_⟩
 ·subst hi
  simp only[Option.map_some,Option.map_none,bnds,bnd]
  rw[show(decide (0<=(h:Int))&&Nat.ble (h:Int).toNat s.size)=true by rw[bytes_size];simp;exact hl]
  simp only[Int.toNat_natCast]
  rw[show Nat.ble h s.size=true from Nat.ble_eq_true_of_le (by rw[bytes_size];exact hl)]
 ·rw[List.drop_zero,Nat.sub_zero];exact hk
def dsl(rs:List Value):Value := .iface mkD (.agg ⟨rs⟩)
theorem n_dlen{rs:List Value}{K:Nat->Prop}(n:Nat)(h:rs.length=n)(hk:K n):(real P).dlen rs K:=by subst h;exact hk
theorem n_dget{rs cs:List Value}{i:Int}{n:Nat}{K:List Value->Prop}(j:Nat)(hi:i=j)(h:rs[j]?=some (.agg ⟨cs⟩))(hn:cs.length=n)(hk:K cs):(real P).dget rs i n K:=⟨j,cs,hi,h,hn,hk⟩
def mkS(b k:Nat):Value := .iface mkM (.slice (some ⟨b,0,none⟩) k k)
def mo(vs:List Value)(e sz:Nat):Option AObj:=match vs with
 | []=>none
 |v::l=>some (.cells (v::l) e sz true true)
theorem mo_ne{vs:List Value}{e sz:Nat}(h:vs≠[]):mo vs e sz=some (.cells vs e sz true true):=by
 cases vs with
 |nil=>exact absurd rfl h
 |cons v l=>rfl
theorem n_base_mo{vs:List Value}{n size:Nat}{elem:TypeId}{K:List Value->Prop}(h:vs.length=n*size)(hs:size≠0)(hk:K vs):(real P).base true n n (mo vs elem size) elem size K:=by
 refine⟨vs,?_,hk⟩
 by_cases hv:vs=[]
 ·subst hv
  refine .inl ⟨rfl,?_,rfl⟩
  simp only[List.length_nil]at h
  rcases Nat.mul_eq_zero.1 h.symm with h|h
  ·exact h
  ·exact absurd h hs
 ·refine .inr ⟨fun e=>hv (List.eq_nil_of_length_eq_zero (by rw[h,e,Nat.zero_mul])),mo_ne hv,rfl,hs,h⟩
theorem n_appX{len n size bytes:Nat}{vs xs:List Value}{K:List Value->Nat->Prop}(hn:n≠0)(hl:xs.length=n*size)(hc:xs.all isCell=true)(hb:(2*(len+n)+192)*bytes<=tops)(hb2:len+n<=1099511627776)(hk:K (vs++xs) (len+n)):
 (real P).appX len vs n xs size bytes K:=⟨_,_,hn,hl,hc,hb,hb2,rfl,rfl,hk⟩
theorem n_inc{m:Nat}{K:Int->Prop}(h:m+1<=9223372036854775807)(hk:K ((m+1:Nat):Int)):(real P).ari .add .i64 (m:Int) .i64 (1:Int) K:=n_add (by omega) (by omega) hk
def belowO(n0:Nat):Option AObj->Bool
 |none=>true
 |some (.cells vs _ _ _ _)=>belowL n0 vs
 |some (.map ks vs _ _)=>belowL n0 ks&&belowL n0 vs
theorem oren_below{n0:Nat}{τ:Nat->Nat}(hτ:∀n,n<n0->τ n=n){o:AObj}(h:belowO n0 (some o)=true):oren τ o=o:=by
 cases o with
 |cells vs e sz lo ow=>simp only[belowO]at h;simp only[oren,vrenL_below hτ vs h]
 |map ks vs bs cl=>simp only[belowO,Bool.and_eq_true]at h;simp only[oren,vrenL_below hτ ks h.1,vrenL_below hτ vs h.2]
theorem vrenL_map(τ:Nat->Nat):∀l:List Value,vrenL τ l=l.map (vren τ)
 | []=>rfl
 |v::l=>by simp only[vrenL,List.map_cons,vrenL_map τ l]
end
end
end Go.Abs
