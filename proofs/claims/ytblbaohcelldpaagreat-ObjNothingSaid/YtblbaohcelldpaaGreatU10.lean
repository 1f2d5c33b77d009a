/- What the laws call: what it comes to. -/
import Derived.Test.YtblbaohcelldpaaGreatUA
import Derived.Test.YtblbaohcelldpaaGreatWD
set_option linter.all false
namespace Go.Proofs.YtblbaohcelldpaaGreat.Ob
open Go Go.Abs Go.Tlv
set_option maxRecDepth 100000
noncomputable section
theorem puAwk:PuOk Tryz.prog 100 9 sAwk:=by
 intro args K h
 unfold sAwk at h
 split at h
 ·exact⟨_,awakeH,h⟩
 ·exact h.elim
def MPxr{α:Type}(v:α->Value)(ok:α->Prop)(may:α->Bool)(atts:α->List At):MPx:=fun a A E=>∃x:α,a=v x/\ok x/\(may x=true->A (bytesOf (encS (atts x))))/\(may x=false->E)
theorem pu_px{α:Type}{v:α->Value}{ok:α->Prop}{may:α->Bool}{atts:α->List At}{f:FuncId}(h:∀x,ok x->∀B H,CallH Tryz.prog 100 B f [v x] H (.returned (putV (may x) (atts x))) H):PuOk Tryz.prog 100 f (sPx (MPxr v ok may atts)):=by
 intro args K hs
 unfold sPx at hs
 split at hs<;>try exact hs.elim
 obtain⟨x,rfl,hf,hA,hE⟩:=hs
 refine⟨_,h x hf,?_⟩
 cases hm:may x with
 |true=>exact hA hm
 |false=>exact hE hm
theorem pu8s{l:PuL}{a b c d e f g h:FuncId×(List Value->(Value->Prop)->Prop)}(h1:PuOk Tryz.prog 100 a.1 a.2)(h2:PuOk Tryz.prog 100 b.1 b.2)(h3:PuOk Tryz.prog 100 c.1 c.2)(h4:PuOk Tryz.prog 100 d.1 d.2)(h5:PuOk Tryz.prog 100 e.1 e.2)(h6:PuOk Tryz.prog 100 f.1 f.2)(h7:PuOk Tryz.prog 100 g.1 g.2)(h8:PuOk Tryz.prog 100 h.1 h.2)(hl:∀x∈l,PuOk Tryz.prog 100 x.1 x.2):
  ∀x∈a::b::c::d::e::f::g::h::l,PuOk Tryz.prog 100 x.1 x.2:=fun x hx=>by
 simp only[List.mem_cons]at hx
 rcases hx with rfl|rfl|rfl|rfl|rfl|rfl|rfl|rfl|hx
 ·exact h1
 ·exact h2
 ·exact h3
 ·exact h4
 ·exact h5
 ·exact h6
 ·exact h7
 ·exact h8
 ·exact hl x hx
theorem pu0C(x:OMsg)(h:okMsg x):Is (gPu0 (real Tryz.prog) (MBr vNode okNode mayNode) (MBr vField okField mayField) (MBr vTable okTable mayTable) (MBr vEntry okEntry mayEntry) (MBr vBlock okBlock mayBlock) (MBr vGroup okGroup mayGroup) (MBr vMeter okMeter mayMeter) (MBr vRegs okRegs mayRegs) (MPxr vNode okNode mayNode attsNode) (x.a0:Int) (x.a1:Int) x.a2 x.a3 x.a4 x.a5 x.a6 (x.a7:Int) (x.a8:Int) x.a9 (rowsOf cNat x.a10) x.n.id x.n.size x.n.lo x.n.lw x.n.lu x.n.so x.n.sw (rowsOf cArm x.n.arms) x.n.ot x.f.id (x.f.base:Int) x.f.node x.f.off x.f.wid x.t.id (x.t.kind:Int) (rowsOf cInt x.t.keys) x.t.cap x.t.miss x.e.tab x.e.key x.e.oth x.e.len x.e.prio x.e.blk (rowsOf cNat x.e.args) x.e.idle x.e.hard (x.e.cook:Int) x.e.tell x.b.id (rowsOf cInstr x.b.code) x.g.id (x.g.kind:Int) x.g.fld (rowsOf cBucket x.g.bks) x.m.id x.m.rate x.m.burst x.r.id x.r.size (fun v=>v=tupJ x 0)):=by
 refine⟨?_⟩
 rw[gPu0_eq]
 exact⟨x.n,rfl,h.1,x.f,rfl,h.2.1,x.t,rfl,h.2.2.1,x.e,rfl,h.2.2.2.1,x.b,rfl,h.2.2.2.2.1,x.g,rfl,h.2.2.2.2.2.1,x.m,rfl,h.2.2.2.2.2.2.1,x.r,rfl,h.2.2.2.2.2.2.2,x.n,rfl,h.1,fun hm=>(by show _=Value.tuple ⟨[.bool (mayNode x.n),.string (putS (mayNode x.n) (attsNode x.n)),.int .i64 (putE (mayNode x.n))]⟩;rw[hm];rfl),fun hm=>(by show _=Value.tuple ⟨[.bool (mayNode x.n),.string (putS (mayNode x.n) (attsNode x.n)),.int .i64 (putE (mayNode x.n))]⟩;rw[hm];rfl)⟩
theorem pu0H(x:OMsg)(h:okMsg x)(B:Base)(H:Heap):CallH Tryz.prog 100 B 11 [vMsg x,.int .i64 0] H (.returned (tupJ x 0)) H:=
 pu_mkV okp (kn_pu (pu8s (pu_b fun x h B H=>mayNodeH x h.1 B H) (pu_b fun x h B H=>mayFieldH x h.1 B H) (pu_b fun x h B H=>mayTableH x h.1 B H) (pu_b fun x h B H=>mayEntryH x h.1 B H) (pu_b fun x h B H=>mayBlockH x h.1 B H) (pu_b fun x h B H=>mayGroupH x h.1 B H) (pu_b fun x h B H=>mayMeterH x h.1 B H) (pu_b fun x h B H=>mayRegsH x h.1 B H) (pu_one1 (pu_px fun x h B H=>putNodeH x h.1 h.2.1 h.2.2 B H)))) lp_none rfl (pu0C x h) B H
theorem pu1C(x:OMsg)(h:okMsg x):Is (gPu1 (real Tryz.prog) (MBr vNode okNode mayNode) (MBr vField okField mayField) (MBr vTable okTable mayTable) (MBr vEntry okEntry mayEntry) (MBr vBlock okBlock mayBlock) (MBr vGroup okGroup mayGroup) (MBr vMeter okMeter mayMeter) (MBr vRegs okRegs mayRegs) (MPxr vField okField mayField attsField) (x.a0:Int) (x.a1:Int) x.a2 x.a3 x.a4 x.a5 x.a6 (x.a7:Int) (x.a8:Int) x.a9 (rowsOf cNat x.a10) x.n.id x.n.size x.n.lo x.n.lw x.n.lu x.n.so x.n.sw (rowsOf cArm x.n.arms) x.n.ot x.f.id (x.f.base:Int) x.f.node x.f.off x.f.wid x.t.id (x.t.kind:Int) (rowsOf cInt x.t.keys) x.t.cap x.t.miss x.e.tab x.e.key x.e.oth x.e.len x.e.prio x.e.blk (rowsOf cNat x.e.args) x.e.idle x.e.hard (x.e.cook:Int) x.e.tell x.b.id (rowsOf cInstr x.b.code) x.g.id (x.g.kind:Int) x.g.fld (rowsOf cBucket x.g.bks) x.m.id x.m.rate x.m.burst x.r.id x.r.size (fun v=>v=tupJ x 1)):=by
 refine⟨?_⟩
 rw[gPu1_eq]
 exact⟨x.n,rfl,h.1,x.f,rfl,h.2.1,x.t,rfl,h.2.2.1,x.e,rfl,h.2.2.2.1,x.b,rfl,h.2.2.2.2.1,x.g,rfl,h.2.2.2.2.2.1,x.m,rfl,h.2.2.2.2.2.2.1,x.r,rfl,h.2.2.2.2.2.2.2,x.f,rfl,h.2.1,fun hm=>(by show _=Value.tuple ⟨[.bool (mayField x.f),.string (putS (mayField x.f) (attsField x.f)),.int .i64 (putE (mayField x.f))]⟩;rw[hm];rfl),fun hm=>(by show _=Value.tuple ⟨[.bool (mayField x.f),.string (putS (mayField x.f) (attsField x.f)),.int .i64 (putE (mayField x.f))]⟩;rw[hm];rfl)⟩
theorem pu1H(x:OMsg)(h:okMsg x)(B:Base)(H:Heap):CallH Tryz.prog 100 B 11 [vMsg x,.int .i64 1] H (.returned (tupJ x 1)) H:=
 pu_mkV okp (kn_pu (pu8s (pu_b fun x h B H=>mayNodeH x h.1 B H) (pu_b fun x h B H=>mayFieldH x h.1 B H) (pu_b fun x h B H=>mayTableH x h.1 B H) (pu_b fun x h B H=>mayEntryH x h.1 B H) (pu_b fun x h B H=>mayBlockH x h.1 B H) (pu_b fun x h B H=>mayGroupH x h.1 B H) (pu_b fun x h B H=>mayMeterH x h.1 B H) (pu_b fun x h B H=>mayRegsH x h.1 B H) (pu_one1 (pu_px fun x h B H=>putFieldH x h.1 h.2.1 B H)))) lp_none rfl (pu1C x h) B H
theorem pu2C(x:OMsg)(h:okMsg x):Is (gPu2 (real Tryz.prog) (MBr vNode okNode mayNode) (MBr vField okField mayField) (MBr vTable okTable mayTable) (MBr vEntry okEntry mayEntry) (MBr vBlock okBlock mayBlock) (MBr vGroup okGroup mayGroup) (MBr vMeter okMeter mayMeter) (MBr vRegs okRegs mayRegs) (MPxr vTable okTable mayTable attsTable) (x.a0:Int) (x.a1:Int) x.a2 x.a3 x.a4 x.a5 x.a6 (x.a7:Int) (x.a8:Int) x.a9 (rowsOf cNat x.a10) x.n.id x.n.size x.n.lo x.n.lw x.n.lu x.n.so x.n.sw (rowsOf cArm x.n.arms) x.n.ot x.f.id (x.f.base:Int) x.f.node x.f.off x.f.wid x.t.id (x.t.kind:Int) (rowsOf cInt x.t.keys) x.t.cap x.t.miss x.e.tab x.e.key x.e.oth x.e.len x.e.prio x.e.blk (rowsOf cNat x.e.args) x.e.idle x.e.hard (x.e.cook:Int) x.e.tell x.b.id (rowsOf cInstr x.b.code) x.g.id (x.g.kind:Int) x.g.fld (rowsOf cBucket x.g.bks) x.m.id x.m.rate x.m.burst x.r.id x.r.size (fun v=>v=tupJ x 2)):=by
 refine⟨?_⟩
 rw[gPu2_eq]
 exact⟨x.n,rfl,h.1,x.f,rfl,h.2.1,x.t,rfl,h.2.2.1,x.e,rfl,h.2.2.2.1,x.b,rfl,h.2.2.2.2.1,x.g,rfl,h.2.2.2.2.2.1,x.m,rfl,h.2.2.2.2.2.2.1,x.r,rfl,h.2.2.2.2.2.2.2,x.t,rfl,h.2.2.1,fun hm=>(by show _=Value.tuple ⟨[.bool (mayTable x.t),.string (putS (mayTable x.t) (attsTable x.t)),.int .i64 (putE (mayTable x.t))]⟩;rw[hm];rfl),fun hm=>(by show _=Value.tuple ⟨[.bool (mayTable x.t),.string (putS (mayTable x.t) (attsTable x.t)),.int .i64 (putE (mayTable x.t))]⟩;rw[hm];rfl)⟩
theorem pu2H(x:OMsg)(h:okMsg x)(B:Base)(H:Heap):CallH Tryz.prog 100 B 11 [vMsg x,.int .i64 2] H (.returned (tupJ x 2)) H:=
 pu_mkV okp (kn_pu (pu8s (pu_b fun x h B H=>mayNodeH x h.1 B H) (pu_b fun x h B H=>mayFieldH x h.1 B H) (pu_b fun x h B H=>mayTableH x h.1 B H) (pu_b fun x h B H=>mayEntryH x h.1 B H) (pu_b fun x h B H=>mayBlockH x h.1 B H) (pu_b fun x h B H=>mayGroupH x h.1 B H) (pu_b fun x h B H=>mayMeterH x h.1 B H) (pu_b fun x h B H=>mayRegsH x h.1 B H) (pu_one1 (pu_px fun x h B H=>putTableH x h.1 h.2.1 h.2.2 B H)))) lp_none rfl (pu2C x h) B H
theorem pu3C(x:OMsg)(h:okMsg x):Is (gPu3 (real Tryz.prog) (MBr vNode okNode mayNode) (MBr vField okField mayField) (MBr vTable okTable mayTable) (MBr vEntry okEntry mayEntry) (MBr vBlock okBlock mayBlock) (MBr vGroup okGroup mayGroup) (MBr vMeter okMeter mayMeter) (MBr vRegs okRegs mayRegs) (MPxr vEntry okEntry mayEntry attsEntry) (x.a0:Int) (x.a1:Int) x.a2 x.a3 x.a4 x.a5 x.a6 (x.a7:Int) (x.a8:Int) x.a9 (rowsOf cNat x.a10) x.n.id x.n.size x.n.lo x.n.lw x.n.lu x.n.so x.n.sw (rowsOf cArm x.n.arms) x.n.ot x.f.id (x.f.base:Int) x.f.node x.f.off x.f.wid x.t.id (x.t.kind:Int) (rowsOf cInt x.t.keys) x.t.cap x.t.miss x.e.tab x.e.key x.e.oth x.e.len x.e.prio x.e.blk (rowsOf cNat x.e.args) x.e.idle x.e.hard (x.e.cook:Int) x.e.tell x.b.id (rowsOf cInstr x.b.code) x.g.id (x.g.kind:Int) x.g.fld (rowsOf cBucket x.g.bks) x.m.id x.m.rate x.m.burst x.r.id x.r.size (fun v=>v=tupJ x 3)):=by
 refine⟨?_⟩
 rw[gPu3_eq]
 exact⟨x.n,rfl,h.1,x.f,rfl,h.2.1,x.t,rfl,h.2.2.1,x.e,rfl,h.2.2.2.1,x.b,rfl,h.2.2.2.2.1,x.g,rfl,h.2.2.2.2.2.1,x.m,rfl,h.2.2.2.2.2.2.1,x.r,rfl,h.2.2.2.2.2.2.2,x.e,rfl,h.2.2.2.1,fun hm=>(by show _=Value.tuple ⟨[.bool (mayEntry x.e),.string (putS (mayEntry x.e) (attsEntry x.e)),.int .i64 (putE (mayEntry x.e))]⟩;rw[hm];rfl),fun hm=>(by show _=Value.tuple ⟨[.bool (mayEntry x.e),.string (putS (mayEntry x.e) (attsEntry x.e)),.int .i64 (putE (mayEntry x.e))]⟩;rw[hm];rfl)⟩
theorem pu3H(x:OMsg)(h:okMsg x)(B:Base)(H:Heap):CallH Tryz.prog 100 B 11 [vMsg x,.int .i64 3] H (.returned (tupJ x 3)) H:=
 pu_mkV okp (kn_pu (pu8s (pu_b fun x h B H=>mayNodeH x h.1 B H) (pu_b fun x h B H=>mayFieldH x h.1 B H) (pu_b fun x h B H=>mayTableH x h.1 B H) (pu_b fun x h B H=>mayEntryH x h.1 B H) (pu_b fun x h B H=>mayBlockH x h.1 B H) (pu_b fun x h B H=>mayGroupH x h.1 B H) (pu_b fun x h B H=>mayMeterH x h.1 B H) (pu_b fun x h B H=>mayRegsH x h.1 B H) (pu_one1 (pu_px fun x h B H=>putEntryH x h.1 h.2.1 h.2.2 B H)))) lp_none rfl (pu3C x h) B H
theorem pu4C(x:OMsg)(h:okMsg x):Is (gPu4 (real Tryz.prog) (MBr vNode okNode mayNode) (MBr vField okField mayField) (MBr vTable okTable mayTable) (MBr vEntry okEntry mayEntry) (MBr vBlock okBlock mayBlock) (MBr vGroup okGroup mayGroup) (MBr vMeter okMeter mayMeter) (MBr vRegs okRegs mayRegs) (MPxr vBlock okBlock mayBlock attsBlock) (x.a0:Int) (x.a1:Int) x.a2 x.a3 x.a4 x.a5 x.a6 (x.a7:Int) (x.a8:Int) x.a9 (rowsOf cNat x.a10) x.n.id x.n.size x.n.lo x.n.lw x.n.lu x.n.so x.n.sw (rowsOf cArm x.n.arms) x.n.ot x.f.id (x.f.base:Int) x.f.node x.f.off x.f.wid x.t.id (x.t.kind:Int) (rowsOf cInt x.t.keys) x.t.cap x.t.miss x.e.tab x.e.key x.e.oth x.e.len x.e.prio x.e.blk (rowsOf cNat x.e.args) x.e.idle x.e.hard (x.e.cook:Int) x.e.tell x.b.id (rowsOf cInstr x.b.code) x.g.id (x.g.kind:Int) x.g.fld (rowsOf cBucket x.g.bks) x.m.id x.m.rate x.m.burst x.r.id x.r.size (fun v=>v=tupJ x 4)):=by
 refine⟨?_⟩
 rw[gPu4_eq]
 exact⟨x.n,rfl,h.1,x.f,rfl,h.2.1,x.t,rfl,h.2.2.1,x.e,rfl,h.2.2.2.1,x.b,rfl,h.2.2.2.2.1,x.g,rfl,h.2.2.2.2.2.1,x.m,rfl,h.2.2.2.2.2.2.1,x.r,rfl,h.2.2.2.2.2.2.2,x.b,rfl,h.2.2.2.2.1,fun hm=>(by show _=Value.tuple ⟨[.bool (mayBlock x.b),.string (putS (mayBlock x.b) (attsBlock x.b)),.int .i64 (putE (mayBlock x.b))]⟩;rw[hm];rfl),fun hm=>(by show _=Value.tuple ⟨[.bool (mayBlock x.b),.string (putS (mayBlock x.b) (attsBlock x.b)),.int .i64 (putE (mayBlock x.b))]⟩;rw[hm];rfl)⟩
theorem pu4H(x:OMsg)(h:okMsg x)(B:Base)(H:Heap):CallH Tryz.prog 100 B 11 [vMsg x,.int .i64 4] H (.returned (tupJ x 4)) H:=
 pu_mkV okp (kn_pu (pu8s (pu_b fun x h B H=>mayNodeH x h.1 B H) (pu_b fun x h B H=>mayFieldH x h.1 B H) (pu_b fun x h B H=>mayTableH x h.1 B H) (pu_b fun x h B H=>mayEntryH x h.1 B H) (pu_b fun x h B H=>mayBlockH x h.1 B H) (pu_b fun x h B H=>mayGroupH x h.1 B H) (pu_b fun x h B H=>mayMeterH x h.1 B H) (pu_b fun x h B H=>mayRegsH x h.1 B H) (pu_one1 (pu_px fun x h B H=>putBlockH x h.1 h.2.1 h.2.2 B H)))) lp_none rfl (pu4C x h) B H
theorem pu5C(x:OMsg)(h:okMsg x):Is (gPu5 (real Tryz.prog) (MBr vNode okNode mayNode) (MBr vField okField mayField) (MBr vTable okTable mayTable) (MBr vEntry okEntry mayEntry) (MBr vBlock okBlock mayBlock) (MBr vGroup okGroup mayGroup) (MBr vMeter okMeter mayMeter) (MBr vRegs okRegs mayRegs) (MPxr vGroup okGroup mayGroup attsGroup) (x.a0:Int) (x.a1:Int) x.a2 x.a3 x.a4 x.a5 x.a6 (x.a7:Int) (x.a8:Int) x.a9 (rowsOf cNat x.a10) x.n.id x.n.size x.n.lo x.n.lw x.n.lu x.n.so x.n.sw (rowsOf cArm x.n.arms) x.n.ot x.f.id (x.f.base:Int) x.f.node x.f.off x.f.wid x.t.id (x.t.kind:Int) (rowsOf cInt x.t.keys) x.t.cap x.t.miss x.e.tab x.e.key x.e.oth x.e.len x.e.prio x.e.blk (rowsOf cNat x.e.args) x.e.idle x.e.hard (x.e.cook:Int) x.e.tell x.b.id (rowsOf cInstr x.b.code) x.g.id (x.g.kind:Int) x.g.fld (rowsOf cBucket x.g.bks) x.m.id x.m.rate x.m.burst x.r.id x.r.size (fun v=>v=tupJ x 5)):=by
 refine⟨?_⟩
 rw[gPu5_eq]
 exact⟨x.n,rfl,h.1,x.f,rfl,h.2.1,x.t,rfl,h.2.2.1,x.e,rfl,h.2.2.2.1,x.b,rfl,h.2.2.2.2.1,x.g,rfl,h.2.2.2.2.2.1,x.m,rfl,h.2.2.2.2.2.2.1,x.r,rfl,h.2.2.2.2.2.2.2,x.g,rfl,h.2.2.2.2.2.1,fun hm=>(by show _=Value.tuple ⟨[.bool (mayGroup x.g),.string (putS (mayGroup x.g) (attsGroup x.g)),.int .i64 (putE (mayGroup x.g))]⟩;rw[hm];rfl),fun hm=>(by show _=Value.tuple ⟨[.bool (mayGroup x.g),.string (putS (mayGroup x.g) (attsGroup x.g)),.int .i64 (putE (mayGroup x.g))]⟩;rw[hm];rfl)⟩
theorem pu5H(x:OMsg)(h:okMsg x)(B:Base)(H:Heap):CallH Tryz.prog 100 B 11 [vMsg x,.int .i64 5] H (.returned (tupJ x 5)) H:=
 pu_mkV okp (kn_pu (pu8s (pu_b fun x h B H=>mayNodeH x h.1 B H) (pu_b fun x h B H=>mayFieldH x h.1 B H) (pu_b fun x h B H=>mayTableH x h.1 B H) (pu_b fun x h B H=>mayEntryH x h.1 B H) (pu_b fun x h B H=>mayBlockH x h.1 B H) (pu_b fun x h B H=>mayGroupH x h.1 B H) (pu_b fun x h B H=>mayMeterH x h.1 B H) (pu_b fun x h B H=>mayRegsH x h.1 B H) (pu_one1 (pu_px fun x h B H=>putGroupH x h.1 h.2.1 h.2.2 B H)))) lp_none rfl (pu5C x h) B H
theorem pu6C(x:OMsg)(h:okMsg x):Is (gPu6 (real Tryz.prog) (MBr vNode okNode mayNode) (MBr vField okField mayField) (MBr vTable okTable mayTable) (MBr vEntry okEntry mayEntry) (MBr vBlock okBlock mayBlock) (MBr vGroup okGroup mayGroup) (MBr vMeter okMeter mayMeter) (MBr vRegs okRegs mayRegs) (MPxr vMeter okMeter mayMeter attsMeter) (x.a0:Int) (x.a1:Int) x.a2 x.a3 x.a4 x.a5 x.a6 (x.a7:Int) (x.a8:Int) x.a9 (rowsOf cNat x.a10) x.n.id x.n.size x.n.lo x.n.lw x.n.lu x.n.so x.n.sw (rowsOf cArm x.n.arms) x.n.ot x.f.id (x.f.base:Int) x.f.node x.f.off x.f.wid x.t.id (x.t.kind:Int) (rowsOf cInt x.t.keys) x.t.cap x.t.miss x.e.tab x.e.key x.e.oth x.e.len x.e.prio x.e.blk (rowsOf cNat x.e.args) x.e.idle x.e.hard (x.e.cook:Int) x.e.tell x.b.id (rowsOf cInstr x.b.code) x.g.id (x.g.kind:Int) x.g.fld (rowsOf cBucket x.g.bks) x.m.id x.m.rate x.m.burst x.r.id x.r.size (fun v=>v=tupJ x 6)):=by
 refine⟨?_⟩
 rw[gPu6_eq]
 exact⟨x.n,rfl,h.1,x.f,rfl,h.2.1,x.t,rfl,h.2.2.1,x.e,rfl,h.2.2.2.1,x.b,rfl,h.2.2.2.2.1,x.g,rfl,h.2.2.2.2.2.1,x.m,rfl,h.2.2.2.2.2.2.1,x.r,rfl,h.2.2.2.2.2.2.2,x.m,rfl,h.2.2.2.2.2.2.1,fun hm=>(by show _=Value.tuple ⟨[.bool (mayMeter x.m),.string (putS (mayMeter x.m) (attsMeter x.m)),.int .i64 (putE (mayMeter x.m))]⟩;rw[hm];rfl),fun hm=>(by show _=Value.tuple ⟨[.bool (mayMeter x.m),.string (putS (mayMeter x.m) (attsMeter x.m)),.int .i64 (putE (mayMeter x.m))]⟩;rw[hm];rfl)⟩
theorem pu6H(x:OMsg)(h:okMsg x)(B:Base)(H:Heap):CallH Tryz.prog 100 B 11 [vMsg x,.int .i64 6] H (.returned (tupJ x 6)) H:=
 pu_mkV okp (kn_pu (pu8s (pu_b fun x h B H=>mayNodeH x h.1 B H) (pu_b fun x h B H=>mayFieldH x h.1 B H) (pu_b fun x h B H=>mayTableH x h.1 B H) (pu_b fun x h B H=>mayEntryH x h.1 B H) (pu_b fun x h B H=>mayBlockH x h.1 B H) (pu_b fun x h B H=>mayGroupH x h.1 B H) (pu_b fun x h B H=>mayMeterH x h.1 B H) (pu_b fun x h B H=>mayRegsH x h.1 B H) (pu_one1 (pu_px fun x h B H=>putMeterH x h.1 h.2.1 B H)))) lp_none rfl (pu6C x h) B H
theorem pu7C(x:OMsg)(h:okMsg x):Is (gPu7 (real Tryz.prog) (MBr vNode okNode mayNode) (MBr vField okField mayField) (MBr vTable okTable mayTable) (MBr vEntry okEntry mayEntry) (MBr vBlock okBlock mayBlock) (MBr vGroup okGroup mayGroup) (MBr vMeter okMeter mayMeter) (MBr vRegs okRegs mayRegs) (MPxr vRegs okRegs mayRegs attsRegs) (x.a0:Int) (x.a1:Int) x.a2 x.a3 x.a4 x.a5 x.a6 (x.a7:Int) (x.a8:Int) x.a9 (rowsOf cNat x.a10) x.n.id x.n.size x.n.lo x.n.lw x.n.lu x.n.so x.n.sw (rowsOf cArm x.n.arms) x.n.ot x.f.id (x.f.base:Int) x.f.node x.f.off x.f.wid x.t.id (x.t.kind:Int) (rowsOf cInt x.t.keys) x.t.cap x.t.miss x.e.tab x.e.key x.e.oth x.e.len x.e.prio x.e.blk (rowsOf cNat x.e.args) x.e.idle x.e.hard (x.e.cook:Int) x.e.tell x.b.id (rowsOf cInstr x.b.code) x.g.id (x.g.kind:Int) x.g.fld (rowsOf cBucket x.g.bks) x.m.id x.m.rate x.m.burst x.r.id x.r.size (fun v=>v=tupJ x 7)):=by
 refine⟨?_⟩
 rw[gPu7_eq]
 exact⟨x.n,rfl,h.1,x.f,rfl,h.2.1,x.t,rfl,h.2.2.1,x.e,rfl,h.2.2.2.1,x.b,rfl,h.2.2.2.2.1,x.g,rfl,h.2.2.2.2.2.1,x.m,rfl,h.2.2.2.2.2.2.1,x.r,rfl,h.2.2.2.2.2.2.2,x.r,rfl,h.2.2.2.2.2.2.2,fun hm=>(by show _=Value.tuple ⟨[.bool (mayRegs x.r),.string (putS (mayRegs x.r) (attsRegs x.r)),.int .i64 (putE (mayRegs x.r))]⟩;rw[hm];rfl),fun hm=>(by show _=Value.tuple ⟨[.bool (mayRegs x.r),.string (putS (mayRegs x.r) (attsRegs x.r)),.int .i64 (putE (mayRegs x.r))]⟩;rw[hm];rfl)⟩
theorem pu7H(x:OMsg)(h:okMsg x)(B:Base)(H:Heap):CallH Tryz.prog 100 B 11 [vMsg x,.int .i64 7] H (.returned (tupJ x 7)) H:=
 pu_mkV okp (kn_pu (pu8s (pu_b fun x h B H=>mayNodeH x h.1 B H) (pu_b fun x h B H=>mayFieldH x h.1 B H) (pu_b fun x h B H=>mayTableH x h.1 B H) (pu_b fun x h B H=>mayEntryH x h.1 B H) (pu_b fun x h B H=>mayBlockH x h.1 B H) (pu_b fun x h B H=>mayGroupH x h.1 B H) (pu_b fun x h B H=>mayMeterH x h.1 B H) (pu_b fun x h B H=>mayRegsH x h.1 B H) (pu_one1 (pu_px fun x h B H=>putRegsH x h.1 h.2.1 B H)))) lp_none rfl (pu7C x h) B H
def MPur:MPu:=fun v k A E=>∃(x:OMsg) (j:Nat),v=vMsg x/\okMsg x/\k=j/\j<8/\(mayJ x j=true->A (bytesOf (encS (attsJ x j))))/\(mayJ x j=false->E)
theorem puPu:PuOk Tryz.prog 100 11 (sPu MPur):=by
 intro args K hs
 unfold sPu at hs
 split at hs<;>try exact hs.elim
 rename_i a k
 obtain⟨x,j,ha,hx,rfl,hj,hA,hE⟩:=hs
 refine⟨tupJ x j,fun B H=>callh_weak (.cons (weak_nrmV a) (WeakL.refl _)) (ha ▸ ?_),?_⟩
 ·rcases j with _|_|_|_|_|_|_|_|j
  ·exact pu0H x hx B H
  ·exact pu1H x hx B H
  ·exact pu2H x hx B H
  ·exact pu3H x hx B H
  ·exact pu4H x hx B H
  ·exact pu5H x hx B H
  ·exact pu6H x hx B H
  ·exact pu7H x hx B H
  ·omega
 ·unfold tupJ
  cases hm:mayJ x j with
  |true=>exact hA hm
  |false=>exact hE hm
def rm0(q:Nat×ONode):Value := .tuple ⟨[vMsg (mkNode q.2),.int .i64 (q.1:Int)]⟩
theorem re0C(s:ByteArray):Is (gRe0 (real Tryz.prog) MKrNode s (fun v=>Weak v (rm0 (rdE stepNode zNode s.data.toList)))):=by
 refine⟨?_⟩
 rw[gRe0_eq]
 refine⟨fun x hx=>?_,fun hx=>?_,fun hx=>?_⟩
 ·rw[hx];exact .tup (.cons (.agg (weak_nrmL _)) (WeakL.refl _))
 ·rw[hx];exact .tup (.cons (.agg (weak_nrmL _)) (WeakL.refl _))
 ·rw[hx];exact .tup (.cons (.agg (weak_nrmL _)) (WeakL.refl _))
theorem re0H(s:ByteArray)(B:Base)(H:Heap):CallH Tryz.prog 100 B 15 [.string s,.int .i64 0] H (.returned (rm0 (rdE stepNode zNode s.data.toList))) H:=
 pu_mkW (kn_pu (pu_one1 puRdNode)) lp_none rfl rfl (re0C s) B H
def rm1(q:Nat×OField):Value := .tuple ⟨[vMsg (mkField q.2),.int .i64 (q.1:Int)]⟩
theorem re1C(s:ByteArray):Is (gRe1 (real Tryz.prog) MKrField s (fun v=>Weak v (rm1 (rdE stepField zField s.data.toList)))):=by
 refine⟨?_⟩
 rw[gRe1_eq]
 refine⟨fun x hx=>?_,fun hx=>?_,fun hx=>?_⟩
 ·rw[hx];exact .tup (.cons (.agg (weak_nrmL _)) (WeakL.refl _))
 ·rw[hx];exact .tup (.cons (.agg (weak_nrmL _)) (WeakL.refl _))
 ·rw[hx];exact .tup (.cons (.agg (weak_nrmL _)) (WeakL.refl _))
theorem re1H(s:ByteArray)(B:Base)(H:Heap):CallH Tryz.prog 100 B 15 [.string s,.int .i64 1] H (.returned (rm1 (rdE stepField zField s.data.toList))) H:=
 pu_mkW (kn_pu (pu_one1 puRdField)) lp_none rfl rfl (re1C s) B H
def rm2(q:Nat×OTable):Value := .tuple ⟨[vMsg (mkTable q.2),.int .i64 (q.1:Int)]⟩
theorem re2C(s:ByteArray):Is (gRe2 (real Tryz.prog) MKrTable s (fun v=>Weak v (rm2 (rdE stepTable zTable s.data.toList)))):=by
 refine⟨?_⟩
 rw[gRe2_eq]
 refine⟨fun x hx=>?_,fun hx=>?_,fun hx=>?_⟩
 ·rw[hx];exact .tup (.cons (.agg (weak_nrmL _)) (WeakL.refl _))
 ·rw[hx];exact .tup (.cons (.agg (weak_nrmL _)) (WeakL.refl _))
 ·rw[hx];exact .tup (.cons (.agg (weak_nrmL _)) (WeakL.refl _))
theorem re2H(s:ByteArray)(B:Base)(H:Heap):CallH Tryz.prog 100 B 15 [.string s,.int .i64 2] H (.returned (rm2 (rdE stepTable zTable s.data.toList))) H:=
 pu_mkW (kn_pu (pu_one1 puRdTable)) lp_none rfl rfl (re2C s) B H
def rm3(q:Nat×OEntry):Value := .tuple ⟨[vMsg (mkEntry q.2),.int .i64 (q.1:Int)]⟩
theorem re3C(s:ByteArray):Is (gRe3 (real Tryz.prog) MKrEntry s (fun v=>Weak v (rm3 (rdE stepEntry zEntry s.data.toList)))):=by
 refine⟨?_⟩
 rw[gRe3_eq]
 refine⟨fun x hx=>?_,fun hx=>?_,fun hx=>?_⟩
 ·rw[hx];exact .tup (.cons (.agg (weak_nrmL _)) (WeakL.refl _))
 ·rw[hx];exact .tup (.cons (.agg (weak_nrmL _)) (WeakL.refl _))
 ·rw[hx];exact .tup (.cons (.agg (weak_nrmL _)) (WeakL.refl _))
theorem re3H(s:ByteArray)(B:Base)(H:Heap):CallH Tryz.prog 100 B 15 [.string s,.int .i64 3] H (.returned (rm3 (rdE stepEntry zEntry s.data.toList))) H:=
 pu_mkW (kn_pu (pu_one1 puRdEntry)) lp_none rfl rfl (re3C s) B H
def rm4(q:Nat×OBlock):Value := .tuple ⟨[vMsg (mkBlock q.2),.int .i64 (q.1:Int)]⟩
theorem re4C(s:ByteArray):Is (gRe4 (real Tryz.prog) MKrBlock s (fun v=>Weak v (rm4 (rdE stepBlock zBlock s.data.toList)))):=by
 refine⟨?_⟩
 rw[gRe4_eq]
 refine⟨fun x hx=>?_,fun hx=>?_,fun hx=>?_⟩
 ·rw[hx];exact .tup (.cons (.agg (weak_nrmL _)) (WeakL.refl _))
 ·rw[hx];exact .tup (.cons (.agg (weak_nrmL _)) (WeakL.refl _))
 ·rw[hx];exact .tup (.cons (.agg (weak_nrmL _)) (WeakL.refl _))
theorem re4H(s:ByteArray)(B:Base)(H:Heap):CallH Tryz.prog 100 B 15 [.string s,.int .i64 4] H (.returned (rm4 (rdE stepBlock zBlock s.data.toList))) H:=
 pu_mkW (kn_pu (pu_one1 puRdBlock)) lp_none rfl rfl (re4C s) B H
def rm5(q:Nat×OGroup):Value := .tuple ⟨[vMsg (mkGroup q.2),.int .i64 (q.1:Int)]⟩
theorem re5C(s:ByteArray):Is (gRe5 (real Tryz.prog) MKrGroup s (fun v=>Weak v (rm5 (rdE stepGroup zGroup s.data.toList)))):=by
 refine⟨?_⟩
 rw[gRe5_eq]
 refine⟨fun x hx=>?_,fun hx=>?_,fun hx=>?_⟩
 ·rw[hx];exact .tup (.cons (.agg (weak_nrmL _)) (WeakL.refl _))
 ·rw[hx];exact .tup (.cons (.agg (weak_nrmL _)) (WeakL.refl _))
 ·rw[hx];exact .tup (.cons (.agg (weak_nrmL _)) (WeakL.refl _))
theorem re5H(s:ByteArray)(B:Base)(H:Heap):CallH Tryz.prog 100 B 15 [.string s,.int .i64 5] H (.returned (rm5 (rdE stepGroup zGroup s.data.toList))) H:=
 pu_mkW (kn_pu (pu_one1 puRdGroup)) lp_none rfl rfl (re5C s) B H
def rm6(q:Nat×OMeter):Value := .tuple ⟨[vMsg (mkMeter q.2),.int .i64 (q.1:Int)]⟩
theorem re6C(s:ByteArray):Is (gRe6 (real Tryz.prog) MKrMeter s (fun v=>Weak v (rm6 (rdE stepMeter zMeter s.data.toList)))):=by
 refine⟨?_⟩
 rw[gRe6_eq]
 refine⟨fun x hx=>?_,fun hx=>?_,fun hx=>?_⟩
 ·rw[hx];exact .tup (.cons (.agg (weak_nrmL _)) (WeakL.refl _))
 ·rw[hx];exact .tup (.cons (.agg (weak_nrmL _)) (WeakL.refl _))
 ·rw[hx];exact .tup (.cons (.agg (weak_nrmL _)) (WeakL.refl _))
theorem re6H(s:ByteArray)(B:Base)(H:Heap):CallH Tryz.prog 100 B 15 [.string s,.int .i64 6] H (.returned (rm6 (rdE stepMeter zMeter s.data.toList))) H:=
 pu_mkW (kn_pu (pu_one1 puRdMeter)) lp_none rfl rfl (re6C s) B H
def rm7(q:Nat×ORegs):Value := .tuple ⟨[vMsg (mkRegs q.2),.int .i64 (q.1:Int)]⟩
theorem re7C(s:ByteArray):Is (gRe7 (real Tryz.prog) MKrRegs s (fun v=>Weak v (rm7 (rdE stepRegs zRegs s.data.toList)))):=by
 refine⟨?_⟩
 rw[gRe7_eq]
 refine⟨fun x hx=>?_,fun hx=>?_,fun hx=>?_⟩
 ·rw[hx];exact .tup (.cons (.agg (weak_nrmL _)) (WeakL.refl _))
 ·rw[hx];exact .tup (.cons (.agg (weak_nrmL _)) (WeakL.refl _))
 ·rw[hx];exact .tup (.cons (.agg (weak_nrmL _)) (WeakL.refl _))
theorem re7H(s:ByteArray)(B:Base)(H:Heap):CallH Tryz.prog 100 B 15 [.string s,.int .i64 7] H (.returned (rm7 (rdE stepRegs zRegs s.data.toList))) H:=
 pu_mkW (kn_pu (pu_one1 puRdRegs)) lp_none rfl rfl (re7C s) B H
def MRr:MRds:=⟨MKrNode,MKrField,MKrTable,MKrEntry,MKrBlock,MKrGroup,MKrMeter,MKrRegs⟩
theorem puRe:PuOk Tryz.prog 100 15 (sReads MRr):=by
 intro args K h
 unfold sReads at h
 split at h<;>try exact h.elim
 rename_i s k
 split at h<;>try exact h.elim
 ·obtain⟨hA,h3,h4⟩:=h
  refine⟨_,re0H s,?_⟩
  rcases rdE_errs stepNode zNode s.data.toList with⟨x,hx⟩ | hx|hx
  ·have:=hA x hx
   rw[hx];exact this
  ·have:=h3 hx
   rw[hx];exact this
  ·have:=h4 hx
   rw[hx];exact this
 ·obtain⟨hA,h3,h4⟩:=h
  refine⟨_,re1H s,?_⟩
  rcases rdE_errs stepField zField s.data.toList with⟨x,hx⟩ | hx|hx
  ·have:=hA x hx
   rw[hx];exact this
  ·have:=h3 hx
   rw[hx];exact this
  ·have:=h4 hx
   rw[hx];exact this
 ·obtain⟨hA,h3,h4⟩:=h
  refine⟨_,re2H s,?_⟩
  rcases rdE_errs stepTable zTable s.data.toList with⟨x,hx⟩ | hx|hx
  ·have:=hA x hx
   rw[hx];exact this
  ·have:=h3 hx
   rw[hx];exact this
  ·have:=h4 hx
   rw[hx];exact this
 ·obtain⟨hA,h3,h4⟩:=h
  refine⟨_,re3H s,?_⟩
  rcases rdE_errs stepEntry zEntry s.data.toList with⟨x,hx⟩ | hx|hx
  ·have:=hA x hx
   rw[hx];exact this
  ·have:=h3 hx
   rw[hx];exact this
  ·have:=h4 hx
   rw[hx];exact this
 ·obtain⟨hA,h3,h4⟩:=h
  refine⟨_,re4H s,?_⟩
  rcases rdE_errs stepBlock zBlock s.data.toList with⟨x,hx⟩ | hx|hx
  ·have:=hA x hx
   rw[hx];exact this
  ·have:=h3 hx
   rw[hx];exact this
  ·have:=h4 hx
   rw[hx];exact this
 ·obtain⟨hA,h3,h4⟩:=h
  refine⟨_,re5H s,?_⟩
  rcases rdE_errs stepGroup zGroup s.data.toList with⟨x,hx⟩ | hx|hx
  ·have:=hA x hx
   rw[hx];exact this
  ·have:=h3 hx
   rw[hx];exact this
  ·have:=h4 hx
   rw[hx];exact this
 ·obtain⟨hA,h3,h4⟩:=h
  refine⟨_,re6H s,?_⟩
  rcases rdE_errs stepMeter zMeter s.data.toList with⟨x,hx⟩ | hx|hx
  ·have:=hA x hx
   rw[hx];exact this
  ·have:=h3 hx
   rw[hx];exact this
  ·have:=h4 hx
   rw[hx];exact this
 ·obtain⟨hA,h3,h4⟩:=h
  refine⟨_,re7H s,?_⟩
  rcases rdE_errs stepRegs zRegs s.data.toList with⟨x,hx⟩ | hx|hx
  ·have:=hA x hx
   rw[hx];exact this
  ·have:=h3 hx
   rw[hx];exact this
  ·have:=h4 hx
   rw[hx];exact this
theorem puSm0:PuOk Tryz.prog 100 53 (sSm (MSmr vNode okNode (fun x y=>x=y))):=pu_sm fun x y hx hy=>smNodeH x y hx.1
theorem puSm1:PuOk Tryz.prog 100 54 (sSm (MSmr vField okField (fun x y=>x=y))):=pu_sm fun x y hx hy=>smFieldH x y
theorem puSm2:PuOk Tryz.prog 100 55 (sSm (MSmr vTable okTable (fun x y=>x=y))):=pu_sm fun x y hx hy=>smTableH x y hx.1
theorem puSm3:PuOk Tryz.prog 100 56 (sSm (MSmr vEntry okEntry (fun x y=>x=y))):=pu_sm fun x y hx hy=>smEntryH x y hx.1
theorem puSm4:PuOk Tryz.prog 100 57 (sSm (MSmr vBlock okBlock (fun x y=>x=y))):=pu_sm fun x y hx hy=>smBlockH x y hx.1
theorem puSm5:PuOk Tryz.prog 100 58 (sSm (MSmr vGroup okGroup (fun x y=>x=y))):=pu_sm fun x y hx hy=>smGroupH x y hx.1
theorem puSm6:PuOk Tryz.prog 100 59 (sSm (MSmr vMeter okMeter (fun x y=>x=y))):=pu_sm fun x y hx hy=>smMeterH x y
theorem puSm7:PuOk Tryz.prog 100 60 (sSm (MSmr vRegs okRegs (fun x y=>x=y))):=pu_sm fun x y hx hy=>smRegsH x y
theorem smMC(x y:OMsg)(hx:okMsg x)(hy:okMsg y):Is (gSmM (real Tryz.prog) (MSmr vNode okNode (fun x y=>x=y)) (MSmr vField okField (fun x y=>x=y)) (MSmr vTable okTable (fun x y=>x=y)) (MSmr vEntry okEntry (fun x y=>x=y)) (MSmr vBlock okBlock (fun x y=>x=y)) (MSmr vGroup okGroup (fun x y=>x=y)) (MSmr vMeter okMeter (fun x y=>x=y)) (MSmr vRegs okRegs (fun x y=>x=y)) (x.a0:Int) (x.a1:Int) x.a2 x.a3 x.a4 x.a5 x.a6 (x.a7:Int) (x.a8:Int) x.a9 (rowsOf cNat x.a10) x.n.id x.n.size x.n.lo x.n.lw x.n.lu x.n.so x.n.sw (rowsOf cArm x.n.arms) x.n.ot x.f.id (x.f.base:Int) x.f.node x.f.off x.f.wid x.t.id (x.t.kind:Int) (rowsOf cInt x.t.keys) x.t.cap x.t.miss x.e.tab x.e.key x.e.oth x.e.len x.e.prio x.e.blk (rowsOf cNat x.e.args) x.e.idle x.e.hard (x.e.cook:Int) x.e.tell x.b.id (rowsOf cInstr x.b.code) x.g.id (x.g.kind:Int) x.g.fld (rowsOf cBucket x.g.bks) x.m.id x.m.rate x.m.burst x.r.id x.r.size (y.a0:Int) (y.a1:Int) y.a2 y.a3 y.a4 y.a5 y.a6 (y.a7:Int) (y.a8:Int) y.a9 (rowsOf cNat y.a10) y.n.id y.n.size y.n.lo y.n.lw y.n.lu y.n.so y.n.sw (rowsOf cArm y.n.arms) y.n.ot y.f.id (y.f.base:Int) y.f.node y.f.off y.f.wid y.t.id (y.t.kind:Int) (rowsOf cInt y.t.keys) y.t.cap y.t.miss y.e.tab y.e.key y.e.oth y.e.len y.e.prio y.e.blk (rowsOf cNat y.e.args) y.e.idle y.e.hard (y.e.cook:Int) y.e.tell y.b.id (rowsOf cInstr y.b.code) y.g.id (y.g.kind:Int) y.g.fld (rowsOf cBucket y.g.bks) y.m.id y.m.rate y.m.burst y.r.id y.r.size (fun v=>∃b:Bool,v = .bool b/\(b=true↔sameM x y))):=by
 refine⟨?_⟩
 rw[gSmM_eq]
 exact⟨x.n,y.n,rfl,rfl,hx.1,hy.1,fun e0=>⟨x.f,y.f,rfl,rfl,hx.2.1,hy.2.1,fun e1=>⟨x.t,y.t,rfl,rfl,hx.2.2.1,hy.2.2.1,fun e2=>⟨x.e,y.e,rfl,rfl,hx.2.2.2.1,hy.2.2.2.1,fun e3=>⟨x.b,y.b,rfl,rfl,hx.2.2.2.2.1,hy.2.2.2.2.1,fun e4=>⟨x.g,y.g,rfl,rfl,hx.2.2.2.2.2.1,hy.2.2.2.2.2.1,fun e5=>⟨x.m,y.m,rfl,rfl,hx.2.2.2.2.2.2.1,hy.2.2.2.2.2.2.1,fun e6=>⟨x.r,y.r,rfl,rfl,hx.2.2.2.2.2.2.2,hy.2.2.2.2.2.2.2,fun e7=>⟨true,rfl,⟨fun _=>⟨e0,e1,e2,e3,e4,e5,e6,e7⟩,fun _=>rfl⟩⟩,fun e7=>⟨false,rfl,⟨fun e=>(by cases e),fun e=>absurd e.2.2.2.2.2.2.2 e7⟩⟩⟩,fun e6=>⟨false,rfl,⟨fun e=>(by cases e),fun e=>absurd e.2.2.2.2.2.2.1 e6⟩⟩⟩,fun e5=>⟨false,rfl,⟨fun e=>(by cases e),fun e=>absurd e.2.2.2.2.2.1 e5⟩⟩⟩,fun e4=>⟨false,rfl,⟨fun e=>(by cases e),fun e=>absurd e.2.2.2.2.1 e4⟩⟩⟩,fun e3=>⟨false,rfl,⟨fun e=>(by cases e),fun e=>absurd e.2.2.2.1 e3⟩⟩⟩,fun e2=>⟨false,rfl,⟨fun e=>(by cases e),fun e=>absurd e.2.2.1 e2⟩⟩⟩,fun e1=>⟨false,rfl,⟨fun e=>(by cases e),fun e=>absurd e.2.1 e1⟩⟩⟩,fun e0=>⟨false,rfl,⟨fun e=>(by cases e),fun e=>absurd e.1 e0⟩⟩⟩
theorem puSmM:PuOk Tryz.prog 100 13 (sSm (MSmr vMsg okMsg sameM)):=pu_sm fun x y hx hy=>
 pu_mkB2 (kn_pu (pu8s puSm0 puSm1 puSm2 puSm3 puSm4 puSm5 puSm6 puSm7 (fun x hx=>by cases hx))) lp_none rfl (smMC x y hx hy)
theorem lgC(x:OMsg)(h:lenOk x):Is (gLg (real Tryz.prog) (x.a0:Int) (x.a1:Int) x.a2 x.a3 x.a4 x.a5 x.a6 (x.a7:Int) (x.a8:Int) x.a9 (rowsOf cNat x.a10) x.n.id x.n.size x.n.lo x.n.lw x.n.lu x.n.so x.n.sw (rowsOf cArm x.n.arms) x.n.ot x.f.id (x.f.base:Int) x.f.node x.f.off x.f.wid x.t.id (x.t.kind:Int) (rowsOf cInt x.t.keys) x.t.cap x.t.miss x.e.tab x.e.key x.e.oth x.e.len x.e.prio x.e.blk (rowsOf cNat x.e.args) x.e.idle x.e.hard (x.e.cook:Int) x.e.tell x.b.id (rowsOf cInstr x.b.code) x.g.id (x.g.kind:Int) x.g.fld (rowsOf cBucket x.g.bks) x.m.id x.m.rate x.m.burst x.r.id x.r.size (fun v=>∃b:Bool,v = .bool b/\(b=false->smallM x))):=by
 refine⟨?_⟩
 rw[gLg_eq]
 obtain⟨b1,b2,b3,b4,b5⟩:=h
 have e1:Int.ofNat x.n.arms.length=(x.n.arms.length:Int):=rfl
 have e2:Int.ofNat x.t.keys.length=(x.t.keys.length:Int):=rfl
 have e3:Int.ofNat x.e.args.length=(x.e.args.length:Int):=rfl
 have e4:Int.ofNat x.b.code.length=(x.b.code.length:Int):=rfl
 have e5:Int.ofNat x.g.bks.length=(x.g.bks.length:Int):=rfl
 refine n_dlen x.n.arms.length (rowsOf_len _ _) ?_
 refine n_dlen x.t.keys.length (rowsOf_len _ _) ?_
 refine n_add (by omega) (by omega) ?_
 refine n_dlen x.e.args.length (rowsOf_len _ _) ?_
 refine n_add (by omega) (by omega) ?_
 refine n_dlen x.b.code.length (rowsOf_len _ _) ?_
 refine n_add (by omega) (by omega) ?_
 refine n_dlen x.g.bks.length (rowsOf_len _ _) ?_
 refine n_add (by omega) (by omega) ?_
 refine n_gtr (fun _=>⟨true,rfl,fun e=>(by cases e)⟩) (fun hs=>?_)
 exact n_slen (n_gtr (fun _=>⟨true,rfl,fun e=>(by cases e)⟩) (fun _=>n_slen (n_gtr (fun _=>⟨true,rfl,fun e=>(by cases e)⟩) (fun _=>⟨false,rfl,fun _=>⟨by omega,by omega,by omega,by omega,by omega⟩⟩))))
def MLgr:MLg:=fun v A E=>∃x:OMsg,v=vMsg x/\lenOk x/\A/\(smallM x->E)
theorem puLg:PuOk Tryz.prog 100 8 (sLg MLgr):=by
 intro args K hs
 unfold sLg at hs
 split at hs<;>try exact hs.elim
 obtain⟨x,rfl,hx,hA,hE⟩:=hs
 obtain⟨b,hb,hc⟩:=pu_mkB2 kn_none lp_none rfl (lgC x hx)
 refine⟨_,hc,?_⟩
 cases b with
 |true=>exact hA
 |false=>exact hE (hb rfl)
end
end Go.Proofs.YtblbaohcelldpaaGreat.Ob
namespace Go.Abs
open Go
noncomputable section
section
variable {P:Program}
def allB(n0:Nat):List (Option AObj)->Bool
 | []=>true
 |o::l=>belowO n0 o&&allB n0 l
theorem allB_at{n0:Nat}:∀ {l:List (Option AObj)},allB n0 l=true->∀(i:Nat) o,l[i]?=some (some o)->belowO n0 (some o)=true
 | [],_,i,o,h=>by simp at h
 |x::l,hb,0,o,h=>by
  simp only[allB,Bool.and_eq_true]at hb
  simp only[List.getElem?_cons_zero,Option.some.injEq]at h;subst h;exact hb.1
 |x::l,hb,i+1,o,h=>by
  simp only[allB,Bool.and_eq_true]at hb
  exact allB_at hb.2 i o (by simpa using h)
def roundK(k0:Nat)(live live2:List Nat)(N:Nat)(back:List Value->List (Option AObj)->Prop)(out:Exit->List Value->Prop):Res->Prop
 | .ex e s=>match Nat.beq s.ts.n N&&(Nat.ble (100+k0) s.h.next&&allB (100+k0) ((objsOf 100 s.h).take k0))with
  |true=>s.ds=[]/\match e with
   | .normal=>match belowL (100+k0) (live.map s.ts.get)with
    |true=>back (live.map s.ts.get) ((objsOf 100 s.h).take k0)
    |false=>False
   | .exit id=>match belowL (100+k0) (live2.map s.ts.get)with
    |true=>out (.exit id) (live2.map s.ts.get)
    |false=>False
   | .ret=>match belowL (100+k0) (live2.map s.ts.get)with
    |true=>out .ret (live2.map s.ts.get)
    |false=>False
   |_=>False
  |false=>False
 |_=>False
theorem weak_none:∀l:List (Option AObj),WeakOs l (l.map fun _=>none)
 | [] => .nil
 |o::l => .cons (.none o) (weak_none l)
theorem wk_first{k0:Nat}{vals:List Value}{objs:List (Option AObj)}(hk:k0<=objs.length)(hv:belowL (100+k0) vals=true)(ho:allB (100+k0) (objs.take k0)=true):Wk 100 (100+k0) vals objs vals (objs.take k0):=by
 have h:=wk_drop (G:=100) (k0:=k0) (vals:=vals) (pre:=objs.take k0) (extra:=objs.drop k0) (by rw[List.length_take];omega) hv (allB_at ho)
 rw[List.take_append_drop]at h;exact h
theorem map_none{α β:Type}:∀ {l:List α} {m:List β},l.length=m.length->(l.map fun _=>(none:Option AObj))=m.map fun _=>none
 | [],[],_=>rfl
 |a::l,b::m,h=>by simp only[List.map_cons,map_none (l:=l) (m:=m) (by simpa using h)]
theorem lp_mkK (hP:okProg P 100=true) {W:How} (hkn:KnOk P 100 W) (hlp:LpOk P 100 W) {live live2:List Nat} {F:LF}
    (h:∀c n vals obs K,F c n vals obs K->∃(α:Type) (fuel:Nat) (m:α->Nat) (I:α->List Value×List (Option AObj)) (R:α->Exit->List Value->Prop) (a:α),Wk 100 (100+obs.length) vals obs (I a).1 (I a).2/\(∀e v,R a e v->K e v (obs.map fun _=>none))/\
      ∀a,Is (wpe P (real P) W fuel (.code false c (stOf 100 n live [] (I a))) (roundK obs.length live live2 n
      (fun vals objs=>∃a',m a' < m a/\vals=(I a').1/\objs=(I a').2/\∀e v,R a' e v->R a e v)
      (fun e v=>R a e v)))):LoopOk P 100 live (lpS live2 F):=by
  intro c n vals ds hh Q hs
  unfold lpS at hs
  split at hs
  · split at hs
    · rename_i hle
      obtain⟨α,fuel,m,I,R,a,h2,h3,h4⟩:=h _ _ _ _ _ hs
      let R2:α->Exit->List Value->List (Option AObj)->Prop:=fun a e v o=>R a e v/\o=(objsOf 100 hh).map fun _=>none
      have hbody:∀a,∃r,(∀B,Holds P 100 B (.code false c (stOf 100 n live [] (I a))) r)/\RoundQ 100 (objsOf 100 hh).length n live live2 [] m I R2 a r:=by
        intro a
        obtain⟨r,g1,g2⟩:=wpe_ok hP hkn hlp _ _ _ (h4 a).out
        refine⟨r,g1,?_⟩
        cases r with
        |en _ _ _=>exact g2.elim
        |ex e s=>
          simp only[roundK]at g2
          split at g2
          · rename_i hc
            simp only[Bool.and_eq_true]at hc
            obtain⟨hc1,hc2,hc3⟩:=hc
            have hc2:=Nat.le_of_ble_eq_true hc2
            have hlen:(objsOf 100 hh).length<=(objsOf 100 s.h).length:=by rw[objsOf_len 100 s.h];omega
            have hout:∀e v,belowL (100+(objsOf 100 hh).length) v=true->R a e v->∃v' o,Wk 100 (100+(objsOf 100 hh).length) v (objsOf 100 s.h) v' o/\R2 a e v' o:=by
              intro e v hb hr
              have hl2:((objsOf 100 s.h).take (objsOf 100 hh).length).length=(objsOf 100 hh).length:=by rw[List.length_take];omega
              refine⟨v,_,(wk_first hlen hb hc3).trans (wk_weak (WeakL.refl _) (weak_none _)),hr,map_none hl2⟩
            obtain⟨hds,g2⟩:=g2
            refine⟨by omega,Nat.eq_of_beq_eq_true hc1,hds,?_⟩
            cases e<;>try exact g2.elim
            · simp only at g2
              split at g2
              · rename_i hb
                obtain⟨a',k1,k2,k3,k4⟩:=g2
                exact⟨a',k1,by rw[←k2,←k3];exact wk_first hlen hb hc3,fun e v o ⟨r1,r2⟩=>⟨k4 e v r1,r2⟩⟩
              · exact g2.elim
            · simp only at g2
              split at g2
              · rename_i hb;exact⟨rfl,hout _ _ hb g2⟩
              · exact g2.elim
            · simp only at g2
              split at g2
              · rename_i hb;exact⟨rfl,hout _ _ hb g2⟩
              · exact g2.elim
          · exact g2.elim
      obtain⟨e,v,o,g1,g2⟩:=loop_rule (ds:=[]) rfl (R:=R2) (m:=m) hbody a rfl h2
      exact⟨_,fun B=>holds_objs (Nat.le_of_ble_eq_true hle) (g2 B),by obtain⟨r1,r2⟩:=g1;subst r2;exact h3 _ _ r1⟩
    · exact hs.elim
  · exact hs.elim
end
end
end Go.Abs
namespace Go.Proofs.YtblbaohcelldpaaGreat.Ob
open Go Go.Abs Go.Tlv
set_option maxRecDepth 100000
noncomputable section
theorem pu3s{a b c:FuncId×(List Value->(Value->Prop)->Prop)}(h1:PuOk Tryz.prog 100 a.1 a.2)(h2:PuOk Tryz.prog 100 b.1 b.2)(h3:PuOk Tryz.prog 100 c.1 c.2):∀x∈[a,b,c],PuOk Tryz.prog 100 x.1 x.2:=fun x hx=>by
 simp only[List.mem_cons,List.not_mem_nil,or_false]at hx
 rcases hx with rfl|rfl|rfl
 ·exact h1
 ·exact h2
 ·exact h3
abbrev Upto(n:Nat):={k:Nat // k<=n}
def cM(x:OMsg):AObj:=match vMsg x with
 | .agg ⟨l⟩ => .cells l 46 52 false true
 |_ => .cells [] 0 0 false false
abbrev LWt:=Code->Nat->List Value->List (Option AObj)->Prop->Prop
def sLoW(live2:List Nat)(L:LWt):LpS:=lpS live2 fun c n vals obs K=>L c n vals obs (K (.exit 0) [top] (obs.map fun _=>none))
def R1(e:Exit)(v:List Value):Prop:=e = .exit 0/\v=[top]
theorem upd_same{x y:OMsg}(h:x=y):sameM x y:=by subst h;exact sameM_refl x
theorem mN{x y:OMsg}{A E:Prop}(hx:okMsg x)(h:x=y)(ha:A):(MSmr vMsg okMsg sameM) (vMsg x) (vMsg y) A E:=by
 subst h;exact⟨x,x,rfl,rfl,hx,hx,fun _=>ha,fun h=>absurd (sameM_refl x) h⟩
end
end Go.Proofs.YtblbaohcelldpaaGreat.Ob
