/- The functions of the ports, to be looked at. -/
import Derived.Test.YtknplaghilagfaaD5
import Derived.Test.YtknplaghilagfaaN1
import Derived.KernelRfl
namespace Go.Proofs.Ytknplaghilagfaa.Po
open Go Go.Abs
set_option linter.unusedVariables false
noncomputable section
def W0 : How := ⟨fun n => Nat.beq n 100, false, fun _ => none, fun _ => none⟩
def pob (vs : List Value) : AObj := .cells vs 56 560 false true
def hp (vs : List Value) : Heap := hOf 100 [] [some (pob vs)]
abbrev RK := Value → List (Option AObj) → Prop
def gIsUp (N : Nd) (vs : List Value) (n : Int) (K : RK) : Prop := wpe Try.prog N W0 300 (.call 20 [.pointer (some ⟨100, 0, none⟩), .int .i64 n] (hp vs)) (retQ 100 K)
def gWaits (N : Nd) (vs : List Value) (n : Int) (K : RK) : Prop := wpe Try.prog N W0 300 (.call 18 [.pointer (some ⟨100, 0, none⟩), .int .i64 n] (hp vs)) (retQ 100 K)
def gUp (N : Nd) (vs : List Value) (n : Int) (K : RK) : Prop := wpe Try.prog N W0 300 (.call 14 [.pointer (some ⟨100, 0, none⟩), .int .i64 n] (hp vs)) (retQ 100 K)
def gDown (N : Nd) (vs : List Value) (n : Int) (K : RK) : Prop := wpe Try.prog N W0 300 (.call 15 [.pointer (some ⟨100, 0, none⟩), .int .i64 n] (hp vs)) (retQ 100 K)
def gTake (N : Nd) (vs : List Value) (n : Int) (K : RK) : Prop := wpe Try.prog N W0 300 (.call 13 [.pointer (some ⟨100, 0, none⟩), .int .i64 n] (hp vs)) (retQ 100 K)
def gSend (N : Nd) (vs : List Value) (n : Int) (s : ByteArray) (K : RK) : Prop := wpe Try.prog N W0 300 (.call 12 [.pointer (some ⟨100, 0, none⟩), .int .i64 n, .string s] (hp vs)) (retQ 100 K)
set_option maxRecDepth 100000
theorem gIsUp_eq (N : Go.Abs.Nd) (vs : List Go.Value) (n : Int) (K : Go.Proofs.Ytknplaghilagfaa.Po.RK) : gIsUp N vs n K =
  (N.cmp BinOp.lss IntKind.i64 n IntKind.i64 (1 : Int) (K (Value.bool false) [(some (AObj.cells vs 56 560 false true))]) (N.cmp BinOp.gtr IntKind.i64 n IntKind.i64 (16 : Int) (K (Value.bool false) [(some (AObj.cells vs 56 560 false true))]) (N.ari BinOp.sub IntKind.i64 n IntKind.i64 (1 : Int) (fun z0 =>
   N.idx 16 0 35 z0 (fun o1 =>
    N.rdB vs o1 (K (Value.bool true) [(some (AObj.cells vs 56 560 false true))]) (K (Value.bool false) [(some (AObj.cells vs 56 560 false true))])))))) := by kernel_rfl
theorem gWaits_eq (N : Go.Abs.Nd) (vs : List Go.Value) (n : Int) (K : Go.Proofs.Ytknplaghilagfaa.Po.RK) : gWaits N vs n K =
  (N.cmp BinOp.lss IntKind.i64 n IntKind.i64 (1 : Int) (K (Value.int IntKind.i64 (0 : Int)) [(some (AObj.cells vs 56 560 false true))]) (N.cmp BinOp.gtr IntKind.i64 n IntKind.i64 (16 : Int) (K (Value.int IntKind.i64 (0 : Int)) [(some (AObj.cells vs 56 560 false true))]) (N.ari BinOp.sub IntKind.i64 n IntKind.i64 (1 : Int) (fun z0 =>
   N.idx 16 0 35 z0 (fun o1 =>
    N.rdI IntKind.i64 vs (o1 + 34) (fun z2 =>
     K (Value.int IntKind.i64 z2) [(some (AObj.cells vs 56 560 false true))])))))) := by kernel_rfl
theorem gUp_eq (N : Go.Abs.Nd) (vs : List Go.Value) (n : Int) (K : Go.Proofs.Ytknplaghilagfaa.Po.RK) : gUp N vs n K =
  (N.cmp BinOp.lss IntKind.i64 n IntKind.i64 (1 : Int) (N.cmp BinOp.eql IntKind.i64 (1 : Int) IntKind.i64 (0 : Int) (False) (K (Value.int IntKind.i64 (1 : Int)) [(some (AObj.cells vs 56 560 false true))])) (N.cmp BinOp.gtr IntKind.i64 n IntKind.i64 (16 : Int) (N.cmp BinOp.eql IntKind.i64 (1 : Int) IntKind.i64 (0 : Int) (False) (K (Value.int IntKind.i64 (1 : Int)) [(some (AObj.cells vs 56 560 false true))])) (N.ari BinOp.sub IntKind.i64 n IntKind.i64 (1 : Int) (fun z0 =>
   N.idx 16 0 35 z0 (fun o1 =>
    N.rdB vs o1 (N.cmp BinOp.eql IntKind.i64 (13 : Int) IntKind.i64 (0 : Int) (False) (K (Value.int IntKind.i64 (13 : Int)) [(some (AObj.cells vs 56 560 false true))])) (N.cmp BinOp.eql IntKind.i64 (0 : Int) IntKind.i64 (0 : Int) (N.wr vs o1 1 [(Value.bool true)] (fun l2 =>
     K (Value.int IntKind.i64 (0 : Int)) [(some (AObj.cells l2 56 560 false true))])) (K (Value.int IntKind.i64 (0 : Int)) [(some (AObj.cells vs 56 560 false true))]))))))) := by kernel_rfl
theorem gDown_eq (N : Go.Abs.Nd) (vs : List Go.Value) (n : Int) (K : Go.Proofs.Ytknplaghilagfaa.Po.RK) : gDown N vs n K =
  (N.cmp BinOp.lss IntKind.i64 n IntKind.i64 (1 : Int) (N.cmp BinOp.neq IntKind.i64 (1 : Int) IntKind.i64 (0 : Int) (K (Value.tuple (Array.mk [(Value.int IntKind.i64 (0 : Int)), (Value.int IntKind.i64 (1 : Int))])) [(some (AObj.cells vs 56 560 false true))]) (False)) (N.cmp BinOp.gtr IntKind.i64 n IntKind.i64 (16 : Int) (N.cmp BinOp.neq IntKind.i64 (1 : Int) IntKind.i64 (0 : Int) (K (Value.tuple (Array.mk [(Value.int IntKind.i64 (0 : Int)), (Value.int IntKind.i64 (1 : Int))])) [(some (AObj.cells vs 56 560 false true))]) (False)) (N.ari BinOp.sub IntKind.i64 n IntKind.i64 (1 : Int) (fun z0 =>
   N.idx 16 0 35 z0 (fun o1 =>
    N.rdB vs o1 (N.cmp BinOp.neq IntKind.i64 (0 : Int) IntKind.i64 (0 : Int) (K (Value.tuple (Array.mk [(Value.int IntKind.i64 (0 : Int)), (Value.int IntKind.i64 (0 : Int))])) [(some (AObj.cells vs 56 560 false true))]) (N.rdI IntKind.i64 vs (o1 + 34) (fun z2 =>
     N.wr vs o1 35 [(Value.bool false), (Value.string (bytesOf [])), (Value.string (bytesOf [])), (Value.string (bytesOf [])), (Value.string (bytesOf [])), (Value.string (bytesOf [])), (Value.string (bytesOf [])), (Value.string (bytesOf [])), (Value.string (bytesOf [])), (Value.string (bytesOf [])), (Value.string (bytesOf [])), (Value.string (bytesOf [])), (Value.string (bytesOf [])), (Value.string (bytesOf [])), (Value.string (bytesOf [])), (Value.string (bytesOf [])), (Value.string (bytesOf [])), (Value.string (bytesOf [])), (Value.string (bytesOf [])), (Value.string (bytesOf [])), (Value.string (bytesOf [])), (Value.string (bytesOf [])), (Value.string (bytesOf [])), (Value.string (bytesOf [])), (Value.string (bytesOf [])), (Value.string (bytesOf [])), (Value.string (bytesOf [])), (Value.string (bytesOf [])), (Value.string (bytesOf [])), (Value.string (bytesOf [])), (Value.string (bytesOf [])), (Value.string (bytesOf [])), (Value.string (bytesOf [])), (Value.int IntKind.i64 (0 : Int)), (Value.int IntKind.i64 (0 : Int))] (fun l3 =>
      K (Value.tuple (Array.mk [(Value.int IntKind.i64 z2), (Value.int IntKind.i64 (0 : Int))])) [(some (AObj.cells l3 56 560 false true))])))) (N.cmp BinOp.neq IntKind.i64 (13 : Int) IntKind.i64 (0 : Int) (K (Value.tuple (Array.mk [(Value.int IntKind.i64 (0 : Int)), (Value.int IntKind.i64 (13 : Int))])) [(some (AObj.cells vs 56 560 false true))]) (False))))))) := by kernel_rfl
theorem gTake_eq (N : Go.Abs.Nd) (vs : List Go.Value) (n : Int) (K : Go.Proofs.Ytknplaghilagfaa.Po.RK) : gTake N vs n K =
  (N.cmp BinOp.lss IntKind.i64 n IntKind.i64 (1 : Int) (K (Value.tuple (Array.mk [(Value.string (bytesOf [])), (Value.bool false)])) [(some (AObj.cells vs 56 560 false true))]) (N.cmp BinOp.gtr IntKind.i64 n IntKind.i64 (16 : Int) (K (Value.tuple (Array.mk [(Value.string (bytesOf [])), (Value.bool false)])) [(some (AObj.cells vs 56 560 false true))]) (N.ari BinOp.sub IntKind.i64 n IntKind.i64 (1 : Int) (fun z0 =>
   N.idx 16 0 35 z0 (fun o1 =>
    N.rdI IntKind.i64 vs (o1 + 34) (fun z2 =>
     N.cmp BinOp.eql IntKind.i64 z2 IntKind.i64 (0 : Int) (K (Value.tuple (Array.mk [(Value.string (bytesOf [])), (Value.bool false)])) [(some (AObj.cells vs 56 560 false true))]) (N.rdI IntKind.i64 vs (o1 + 33) (fun z3 =>
      N.ari BinOp.add IntKind.i64 z3 IntKind.i64 (0 : Int) (fun z4 =>
       N.ari BinOp.rem IntKind.i64 z4 IntKind.i64 (32 : Int) (fun z5 =>
        N.idx 32 (o1 + 1) 1 z5 (fun o6 =>
         N.rdS vs o6 (fun s7 =>
          N.rdI IntKind.i64 vs (o1 + 33) (fun z8 =>
           N.ari BinOp.add IntKind.i64 z8 IntKind.i64 (0 : Int) (fun z9 =>
            N.ari BinOp.rem IntKind.i64 z9 IntKind.i64 (32 : Int) (fun z10 =>
             N.idx 32 (o1 + 1) 1 z10 (fun o11 =>
              N.wr vs o11 1 [(Value.string (bytesOf []))] (fun l12 =>
               N.rdI IntKind.i64 l12 (o1 + 33) (fun z13 =>
                N.ari BinOp.add IntKind.i64 z13 IntKind.i64 (1 : Int) (fun z14 =>
                 N.ari BinOp.rem IntKind.i64 z14 IntKind.i64 (32 : Int) (fun z15 =>
                  N.wr l12 (o1 + 33) 1 [(Value.int IntKind.i64 z15)] (fun l16 =>
                   N.rdI IntKind.i64 l16 (o1 + 34) (fun z17 =>
                    N.ari BinOp.sub IntKind.i64 z17 IntKind.i64 (1 : Int) (fun z18 =>
                     N.wr l16 (o1 + 34) 1 [(Value.int IntKind.i64 z18)] (fun l19 =>
                      K (Value.tuple (Array.mk [(Value.string s7), (Value.bool true)])) [(some (AObj.cells l19 56 560 false true))])))))))))))))))))))))))) := by kernel_rfl
theorem gSend_eq (N : Go.Abs.Nd) (vs : List Go.Value) (n : Int) (s : ByteArray) (K : Go.Proofs.Ytknplaghilagfaa.Po.RK) : gSend N vs n s K =
  (N.cmp BinOp.lss IntKind.i64 n IntKind.i64 (1 : Int) (K (Value.int IntKind.i64 (8 : Int)) [(some (AObj.cells vs 56 560 false true))]) (N.cmp BinOp.gtr IntKind.i64 n IntKind.i64 (16 : Int) (K (Value.int IntKind.i64 (8 : Int)) [(some (AObj.cells vs 56 560 false true))]) (N.ari BinOp.sub IntKind.i64 n IntKind.i64 (1 : Int) (fun z0 =>
   N.idx 16 0 35 z0 (fun o1 =>
    N.rdB vs o1 (N.slen s (fun z2 =>
     N.cmp BinOp.gtr IntKind.i64 z2 IntKind.i64 (9216 : Int) (K (Value.int IntKind.i64 (10 : Int)) [(some (AObj.cells vs 56 560 false true))]) (N.rdI IntKind.i64 vs (o1 + 34) (fun z3 =>
      N.cmp BinOp.eql IntKind.i64 z3 IntKind.i64 (32 : Int) (K (Value.int IntKind.i64 (9 : Int)) [(some (AObj.cells vs 56 560 false true))]) (N.rdI IntKind.i64 vs (o1 + 34) (fun z4 =>
       N.rdI IntKind.i64 vs (o1 + 33) (fun z5 =>
        N.ari BinOp.add IntKind.i64 z5 IntKind.i64 z4 (fun z6 =>
         N.ari BinOp.rem IntKind.i64 z6 IntKind.i64 (32 : Int) (fun z7 =>
          N.idx 32 (o1 + 1) 1 z7 (fun o8 =>
           N.wr vs o8 1 [(Value.string s)] (fun l9 =>
            N.rdI IntKind.i64 l9 (o1 + 34) (fun z10 =>
             N.ari BinOp.add IntKind.i64 z10 IntKind.i64 (1 : Int) (fun z11 =>
              N.wr l9 (o1 + 34) 1 [(Value.int IntKind.i64 z11)] (fun l12 =>
               K (Value.int IntKind.i64 (0 : Int)) [(some (AObj.cells l12 56 560 false true))])))))))))))))) (K (Value.int IntKind.i64 (8 : Int)) [(some (AObj.cells vs 56 560 false true))])))))) := by kernel_rfl
end
end Go.Proofs.Ytknplaghilagfaa.Po
