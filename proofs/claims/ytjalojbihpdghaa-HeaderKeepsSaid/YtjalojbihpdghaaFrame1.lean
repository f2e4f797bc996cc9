/- Parts: checked, framed, parsed. -/
import Derived.Test.YtjalojbihpdghaaNums
import Derived.Test.YtjalojbihpdghaaTape2
namespace Go.Proofs.Ytjalojbihpdghaa
open Go Go.Eng
set_option linter.unusedVariables false

structure Pt where
  kind : UInt8
  id : UInt64
  index : Int
  count : Int
  data : List UInt8
def ptC (p : Pt) (a : Option Addr) (cap : Nat) : List Value := [u8 p.kind, u64 p.id, i64 p.index, i64 p.count, .slice a p.data.length cap]
def checkR (p : Pt) : Int :=
  if (p.kind.toNat : Int) < 1 ∨ 3 < (p.kind.toNat : Int) then 1 else if 450 < (p.data.length : Int) then 2 else if p.count < 1 ∨ 16 < p.count ∨ p.index < 0 ∨ p.count ≤ p.index then 3
  else if ((p.kind.toNat : Int) ≠ 1 ∧ p.count ≠ 1) ∨ ((p.kind.toNat : Int) = 2 ∧ ((p.id.toNat : Int) ≠ 0 ∨ 0 < (p.data.length : Int))) then 3 else 0


set_option maxRecDepth 100000 in
theorem frame_Check (p : Pt) (a : Option Addr) (cap : Nat) (w : World) :
    Ret Try.prog 58 [.agg (ptC p a cap).toArray] w (fun v _ => v = i64 (checkR p)) := by
  unfold ptC
  refine enter [] (Mem.nil _) Try.func58 rfl Try.ntmps58 rfl (fun X hX => ?_)
  have hw := hX.w0; subst hw
  refine G.seq <| G.reg <| W.bxa rfl rfl fun b1 => W.q (sa rfl) rfl <| W.nil <| G.seq <| G.seq <| G.join [(10, .bool (decide ((p.kind.toNat : Int) < 1 ∨ 3 < (p.kind.toNat : Int))))] [(1, _)] (Sub.cons rfl <| Sub.nil _) (fun key1 => ?_) ?_
  · -- region 1
    refine G.reg <| W.q (fa Try.fof66_0 rfl) rfl <| W.q (ld Try.sc5 rfl (Cell.at .hd rfl)) rfl <| W.q (lt rfl rfl) rfl <| W.q (mv rfl) rfl <| W.sp (t := _) 6 rfl (fun g1 => ?_) (fun g1 => ?_)
    · -- True
      refine W.sk rfl rfl g1 rfl <| W.sk rfl rfl g1 rfl <| W.sk rfl rfl g1 rfl <| W.q (pkt rfl g1 rfl) rfl <| W.nil <| key1.weak (Sub.co rfl ?_ <| Sub.cons rfl <| Sub.nil _) .rfl
      all_goals (show Value.bool _ = Value.bool _; congr 1; grind)
    · -- False
      refine W.qg rfl rfl g1 (fa Try.fof66_0 rfl) rfl <| W.qg rfl rfl g1 (ld Try.sc5 rfl (Cell.at .hd rfl)) rfl <| W.qg rfl rfl g1 (gt rfl rfl) rfl <| W.q (pkf rfl g1 rfl) rfl <| W.nil <| key1.weak (Sub.co rfl ?_ <| Sub.cons rfl <| Sub.nil _) .rfl
      all_goals (show Value.bool _ = Value.bool _; congr 1; grind)
  refine G.cdd rfl (fun h2 => ?_) (fun h2 => ?_)
  · -- h2 True
    refine G.seq <| G.reg <| W.q (sa rfl) rfl <| W.nil <| ret1 hX Try.results58 rfl fun w hm => done (H := []) rfl ?_ (Dr.ent (Dr.new rfl) w hm)
    grind [checkR]
  · -- h2 False
    refine G.skip <| G.seq <| G.seq <| G.reg <| W.q (fa Try.fof66_4 rfl) rfl <| W.q (ld Try.sc22 rfl (Cell.at .hd rfl)) rfl <| W.q (ln Try.esl22 rfl) rfl <| W.q (gt rfl rfl) rfl <| W.nil <| G.cdd rfl (fun h3 => ?_) (fun h3 => ?_)
    · -- h3 True
      refine G.seq <| G.reg <| W.q (sa rfl) rfl <| W.nil <| ret1 hX Try.results58 rfl fun w hm => done (H := []) rfl ?_ (Dr.ent (Dr.new rfl) w hm)
      grind [checkR]
    · -- h3 False
      refine G.skip <| G.seq <| G.seq <| G.join [(34, .bool (decide (p.count < 1 ∨ 16 < p.count ∨ p.index < 0 ∨ p.count ≤ p.index)))] [(1, _)] (Sub.cons rfl <| Sub.nil _) (fun key5 => ?_) ?_
      · -- region 5
        refine G.reg <| W.q (fa Try.fof66_3 rfl) rfl <| W.q (ld Try.sc3 rfl (Cell.at .hd rfl)) rfl <| W.q (lt rfl rfl) rfl <| W.q (mv rfl) rfl <| W.sp (t := _) 18 rfl (fun g4 => ?_) (fun g4 => ?_)
        · -- True
          refine W.sk rfl rfl g4 rfl <| W.sk rfl rfl g4 rfl <| W.sk rfl rfl g4 rfl <| W.q (pkt rfl g4 rfl) rfl <| W.q (mv rfl) rfl <| W.sk rfl rfl rfl rfl <| W.sk rfl rfl rfl rfl <| W.sk rfl rfl rfl rfl <| W.q (pkt rfl rfl rfl) rfl <| W.q (mv rfl) rfl <| W.sk rfl rfl rfl rfl <| W.sk rfl rfl rfl rfl <| W.sk rfl rfl rfl rfl <| W.sk rfl rfl rfl rfl <| W.sk rfl rfl rfl rfl <| W.q (pkt rfl rfl rfl) rfl <| W.nil <| key5.weak (Sub.co rfl ?_ <| Sub.cons rfl <| Sub.nil _) .rfl
          all_goals (show Value.bool _ = Value.bool _; congr 1; grind)
        · -- False
          refine W.qg rfl rfl g4 (fa Try.fof66_3 rfl) rfl <| W.qg rfl rfl g4 (ld Try.sc3 rfl (Cell.at .hd rfl)) rfl <| W.qg rfl rfl g4 (gt rfl rfl) rfl <| W.q (pkf rfl g4 rfl) rfl <| W.q (mv rfl) rfl <| W.sp (t := _) 23 rfl (fun g5 => ?_) (fun g5 => ?_)
          · -- True
            refine W.sk rfl rfl g5 rfl <| W.sk rfl rfl g5 rfl <| W.sk rfl rfl g5 rfl <| W.q (pkt rfl g5 rfl) rfl <| W.q (mv rfl) rfl <| W.sk rfl rfl rfl rfl <| W.sk rfl rfl rfl rfl <| W.sk rfl rfl rfl rfl <| W.sk rfl rfl rfl rfl <| W.sk rfl rfl rfl rfl <| W.q (pkt rfl rfl rfl) rfl <| W.nil <| key5.weak (Sub.co rfl ?_ <| Sub.cons rfl <| Sub.nil _) .rfl
            all_goals (show Value.bool _ = Value.bool _; congr 1; grind)
          · -- False
            refine W.qg rfl rfl g5 (fa Try.fof66_2 rfl) rfl <| W.qg rfl rfl g5 (ld Try.sc3 rfl (Cell.at .hd rfl)) rfl <| W.qg rfl rfl g5 (lt rfl rfl) rfl <| W.q (pkf rfl g5 rfl) rfl <| W.q (mv rfl) rfl <| W.sp (t := _) 28 rfl (fun g6 => ?_) (fun g6 => ?_)
            · -- True
              refine W.sk rfl rfl g6 rfl <| W.sk rfl rfl g6 rfl <| W.sk rfl rfl g6 rfl <| W.sk rfl rfl g6 rfl <| W.sk rfl rfl g6 rfl <| W.q (pkt rfl g6 rfl) rfl <| W.nil <| key5.weak (Sub.co rfl ?_ <| Sub.cons rfl <| Sub.nil _) .rfl
              all_goals (show Value.bool _ = Value.bool _; congr 1; grind)
            · -- False
              refine W.qg rfl rfl g6 (fa Try.fof66_2 rfl) rfl <| W.qg rfl rfl g6 (ld Try.sc3 rfl (Cell.at .hd rfl)) rfl <| W.qg rfl rfl g6 (fa Try.fof66_3 rfl) rfl <| W.qg rfl rfl g6 (ld Try.sc3 rfl (Cell.at .hd rfl)) rfl <| W.qg rfl rfl g6 (ge rfl rfl) rfl <| W.q (pkf rfl g6 rfl) rfl <| W.nil <| key5.weak (Sub.co rfl ?_ <| Sub.cons rfl <| Sub.nil _) .rfl
              all_goals (show Value.bool _ = Value.bool _; congr 1; grind)
      refine G.cdd rfl (fun h7 => ?_) (fun h7 => ?_)
      · -- h7 True
        refine G.seq <| G.reg <| W.q (sa rfl) rfl <| W.nil <| ret1 hX Try.results58 rfl fun w hm => done (H := []) rfl ?_ (Dr.ent (Dr.new rfl) w hm)
        grind [checkR]
      · -- h7 False
        refine G.skip <| G.seq <| G.seq <| G.join [(58, .bool (decide (((p.kind.toNat : Int) ≠ 1 ∧ p.count ≠ 1) ∨ ((p.kind.toNat : Int) = 2 ∧ ((p.id.toNat : Int) ≠ 0 ∨ 0 < (p.data.length : Int))))))] [] (Sub.nil _) (fun key7 => ?_) ?_
        · -- region 7
          refine G.reg <| W.q (fa Try.fof66_0 rfl) rfl <| W.q (ld Try.sc5 rfl (Cell.at .hd rfl)) rfl <| W.q (ne rfl rfl) rfl <| W.q (mv rfl) rfl <| W.sp (t := _) 38 rfl (fun g8 => ?_) (fun g8 => ?_)
          · -- True
            refine W.qg rfl rfl g8 (fa Try.fof66_3 rfl) rfl <| W.qg rfl rfl g8 (ld Try.sc3 rfl (Cell.at .hd rfl)) rfl <| W.qg rfl rfl g8 (ne rfl rfl) rfl <| W.q (pkt rfl g8 rfl) rfl <| W.q (mv rfl) rfl <| W.sp (t := _) 43 rfl (fun g9 => ?_) (fun g9 => ?_)
            · -- True
              refine W.sk rfl rfl g9 rfl <| W.sk rfl rfl g9 rfl <| W.sk rfl rfl g9 rfl <| W.sk rfl rfl g9 rfl <| W.sku rfl rfl rfl <| W.sku rfl rfl rfl <| W.sku rfl rfl rfl <| W.sku rfl rfl rfl <| W.sku rfl rfl rfl <| W.sku rfl rfl rfl <| W.sku rfl rfl rfl <| W.sku rfl rfl rfl <| W.sku rfl rfl rfl <| W.sk rfl rfl g9 rfl <| W.q (pkt rfl g9 rfl) rfl <| W.nil <| key7.weak (Sub.co rfl ?_ <| Sub.nil _) .rfl
              all_goals (show Value.bool _ = Value.bool _; congr 1; grind)
            · -- False
              refine W.qg rfl rfl g9 (fa Try.fof66_0 rfl) rfl <| W.qg rfl rfl g9 (ld Try.sc5 rfl (Cell.at .hd rfl)) rfl <| W.qg rfl rfl g9 (eq rfl rfl) rfl <| W.qg rfl rfl g9 (mv rfl) rfl <| W.sp (t := _) 47 rfl (fun g10 => ?_) (fun g10 => ?_)
              · -- True
                refine W.qg rfl rfl g10 (fa Try.fof66_1 rfl) rfl <| W.qg rfl rfl g10 (ld Try.sc29 rfl (Cell.at .hd rfl)) rfl <| W.qg rfl rfl g10 (ne rfl rfl) rfl <| W.qg rfl rfl g10 (mv rfl) rfl <| W.sp (t := _) 51 rfl (fun g11 => ?_) (fun g11 => ?_)
                · -- True
                  refine W.sk rfl rfl g11 rfl <| W.sk rfl rfl g11 rfl <| W.sk rfl rfl g11 rfl <| W.sk rfl rfl g11 rfl <| W.qg rfl rfl g10 (pkt rfl g11 rfl) rfl <| W.qg rfl rfl g9 (pkt rfl g10 rfl) rfl <| W.q (pkf rfl g9 rfl) rfl <| W.nil <| key7.weak (Sub.co rfl ?_ <| Sub.nil _) .rfl
                  all_goals (show Value.bool _ = Value.bool _; congr 1; grind)
                · -- False
                  refine W.qg rfl rfl g11 (fa Try.fof66_4 rfl) rfl <| W.qg rfl rfl g11 (ld Try.sc22 rfl (Cell.at .hd rfl)) rfl <| W.qg rfl rfl g11 (ln Try.esl22 rfl) rfl <| W.qg rfl rfl g11 (gt rfl rfl) rfl <| W.qg rfl rfl g10 (pkf rfl g11 rfl) rfl <| W.qg rfl rfl g9 (pkt rfl g10 rfl) rfl <| W.q (pkf rfl g9 rfl) rfl <| W.nil <| key7.weak (Sub.co rfl ?_ <| Sub.nil _) .rfl
                  all_goals (show Value.bool _ = Value.bool _; congr 1; grind)
              · -- False
                refine W.sk rfl rfl g10 rfl <| W.sk rfl rfl g10 rfl <| W.sk rfl rfl g10 rfl <| W.sk rfl rfl g10 rfl <| W.sku rfl rfl rfl <| W.sku rfl rfl rfl <| W.sku rfl rfl rfl <| W.sku rfl rfl rfl <| W.sk rfl rfl g10 rfl <| W.qg rfl rfl g9 (pkf rfl g10 rfl) rfl <| W.q (pkf rfl g9 rfl) rfl <| W.nil <| key7.weak (Sub.co rfl ?_ <| Sub.nil _) .rfl
                all_goals (show Value.bool _ = Value.bool _; congr 1; grind)
          · -- False
            refine W.sk rfl rfl g8 rfl <| W.sk rfl rfl g8 rfl <| W.sk rfl rfl g8 rfl <| W.q (pkf rfl g8 rfl) rfl <| W.q (mv rfl) rfl <| W.qg rfl rfl rfl (fa Try.fof66_0 rfl) rfl <| W.qg rfl rfl rfl (ld Try.sc5 rfl (Cell.at .hd rfl)) rfl <| W.qg rfl rfl rfl (eq rfl rfl) rfl <| W.qg rfl rfl rfl (mv rfl) rfl <| W.sp (t := _) 47 rfl (fun g12 => ?_) (fun g12 => ?_)
            · -- True
              refine W.qg rfl rfl g12 (fa Try.fof66_1 rfl) rfl <| W.qg rfl rfl g12 (ld Try.sc29 rfl (Cell.at .hd rfl)) rfl <| W.qg rfl rfl g12 (ne rfl rfl) rfl <| W.qg rfl rfl g12 (mv rfl) rfl <| W.sp (t := _) 51 rfl (fun g13 => ?_) (fun g13 => ?_)
              · -- True
                refine W.sk rfl rfl g13 rfl <| W.sk rfl rfl g13 rfl <| W.sk rfl rfl g13 rfl <| W.sk rfl rfl g13 rfl <| W.qg rfl rfl g12 (pkt rfl g13 rfl) rfl <| W.qg rfl rfl rfl (pkt rfl g12 rfl) rfl <| W.q (pkf rfl rfl rfl) rfl <| W.nil <| key7.weak (Sub.co rfl ?_ <| Sub.nil _) .rfl
                all_goals (show Value.bool _ = Value.bool _; congr 1; grind)
              · -- False
                refine W.qg rfl rfl g13 (fa Try.fof66_4 rfl) rfl <| W.qg rfl rfl g13 (ld Try.sc22 rfl (Cell.at .hd rfl)) rfl <| W.qg rfl rfl g13 (ln Try.esl22 rfl) rfl <| W.qg rfl rfl g13 (gt rfl rfl) rfl <| W.qg rfl rfl g12 (pkf rfl g13 rfl) rfl <| W.qg rfl rfl rfl (pkt rfl g12 rfl) rfl <| W.q (pkf rfl rfl rfl) rfl <| W.nil <| key7.weak (Sub.co rfl ?_ <| Sub.nil _) .rfl
                all_goals (show Value.bool _ = Value.bool _; congr 1; grind)
            · -- False
              refine W.sk rfl rfl g12 rfl <| W.sk rfl rfl g12 rfl <| W.sk rfl rfl g12 rfl <| W.sk rfl rfl g12 rfl <| W.sku rfl rfl rfl <| W.sku rfl rfl rfl <| W.sku rfl rfl rfl <| W.sku rfl rfl rfl <| W.sk rfl rfl g12 rfl <| W.qg rfl rfl rfl (pkf rfl g12 rfl) rfl <| W.q (pkf rfl rfl rfl) rfl <| W.nil <| key7.weak (Sub.co rfl ?_ <| Sub.nil _) .rfl
              all_goals (show Value.bool _ = Value.bool _; congr 1; grind)
        refine G.cdd rfl (fun h14 => ?_) (fun h14 => ?_)
        · -- h14 True
          refine G.seq <| G.reg <| W.q (sa rfl) rfl <| W.nil <| ret1 hX Try.results58 rfl fun w hm => done (H := []) rfl ?_ (Dr.ent (Dr.new rfl) w hm)
          grind [checkR]
        · -- h14 False
          refine G.skip <| G.seq <| G.reg <| W.q (sa rfl) rfl <| W.nil <| ret1 hX Try.results58 rfl fun w hm => done (H := []) rfl ?_ (Dr.ent (Dr.new rfl) w hm)
          grind [checkR]


set_option maxRecDepth 100000 in
theorem ref11_Check (p : Pt) (a : Option Addr) (cap : Nat) (w : World) :
    Ret Try.prog 74 [.agg (ptC p a cap).toArray] w (fun v _ => v = i64 (checkR p)) := by
  unfold ptC
  refine enter [] (Mem.nil _) Try.func74 rfl Try.ntmps74 rfl (fun X hX => ?_)
  have hw := hX.w0; subst hw
  refine G.seq <| G.reg <| W.bxa rfl rfl fun b1 => W.q (sa rfl) rfl <| W.nil <| G.seq <| G.blk <| G.seq <| G.join [(3, .bool (decide ((p.kind.toNat : Int) < 1 ∨ 3 < (p.kind.toNat : Int))))] [(1, _)] (Sub.cons rfl <| Sub.nil _) (fun key1 => ?_) ?_
  · -- region 1
    refine G.reg <| W.q (fa Try.fof66_0 rfl) rfl <| W.q (ld Try.sc5 rfl (Cell.at .hd rfl)) rfl <| W.q (ne rfl rfl) rfl <| W.q (mv rfl) rfl <| W.sp (t := _) 7 rfl (fun g1 => ?_) (fun g1 => ?_)
    · -- True
      refine W.qg rfl rfl g1 (fa Try.fof66_0 rfl) rfl <| W.qg rfl rfl g1 (ld Try.sc5 rfl (Cell.at .hd rfl)) rfl <| W.qg rfl rfl g1 (ne rfl rfl) rfl <| W.q (pkt rfl g1 rfl) rfl <| W.q (mv rfl) rfl <| W.sp (t := _) 12 rfl (fun g2 => ?_) (fun g2 => ?_)
      · -- True
        refine W.qg rfl rfl g2 (fa Try.fof66_0 rfl) rfl <| W.qg rfl rfl g2 (ld Try.sc5 rfl (Cell.at .hd rfl)) rfl <| W.qg rfl rfl g2 (ne rfl rfl) rfl <| W.q (pkt rfl g2 rfl) rfl <| W.q (sa rfl) rfl <| W.nil <| key1.weak (Sub.co rfl ?_ <| Sub.cons rfl <| Sub.nil _) .rfl
        all_goals (show Value.bool _ = Value.bool _; congr 1; grind)
      · -- False
        refine W.sk rfl rfl g2 rfl <| W.sk rfl rfl g2 rfl <| W.sk rfl rfl g2 rfl <| W.q (pkf rfl g2 rfl) rfl <| W.q (sa rfl) rfl <| W.nil <| key1.weak (Sub.co rfl ?_ <| Sub.cons rfl <| Sub.nil _) .rfl
        all_goals (show Value.bool _ = Value.bool _; congr 1; grind)
    · -- False
      refine W.sk rfl rfl g1 rfl <| W.sk rfl rfl g1 rfl <| W.sk rfl rfl g1 rfl <| W.q (pkf rfl g1 rfl) rfl <| W.q (mv rfl) rfl <| W.sk rfl rfl rfl rfl <| W.sk rfl rfl rfl rfl <| W.sk rfl rfl rfl rfl <| W.q (pkf rfl rfl rfl) rfl <| W.q (sa rfl) rfl <| W.nil <| key1.weak (Sub.co rfl ?_ <| Sub.cons rfl <| Sub.nil _) .rfl
      all_goals (show Value.bool _ = Value.bool _; congr 1; grind)
  refine G.cdd rfl (fun h3 => ?_) (fun h3 => ?_)
  · -- h3 True
    refine G.seq <| G.reg <| W.q (sa rfl) rfl <| W.nil <| ret1 hX Try.results74 rfl fun w hm => done (H := []) rfl ?_ (Dr.ent (Dr.new rfl) w hm)
    grind [checkR]
  · -- h3 False
    refine G.seq <| G.reg <| W.q (fa Try.fof66_4 rfl) rfl <| W.q (ld Try.sc22 rfl (Cell.at .hd rfl)) rfl <| W.q (ln Try.esl22 rfl) rfl <| W.q (gt rfl rfl) rfl <| W.q (sa rfl) rfl <| W.nil <| G.cdd rfl (fun h4 => ?_) (fun h4 => ?_)
    · -- h4 True
      refine G.seq <| G.reg <| W.q (sa rfl) rfl <| W.nil <| ret1 hX Try.results74 rfl fun w hm => done (H := []) rfl ?_ (Dr.ent (Dr.new rfl) w hm)
      grind [checkR]
    · -- h4 False
      refine G.seq <| G.join [(22, .bool (decide (p.count < 1 ∨ 16 < p.count ∨ p.index < 0 ∨ p.count ≤ p.index)))] [(1, _)] (Sub.cons rfl <| Sub.nil _) (fun key5 => ?_) ?_
      · -- region 5
        refine G.reg <| W.q (fa Try.fof66_3 rfl) rfl <| W.q (ld Try.sc3 rfl (Cell.at .hd rfl)) rfl <| W.q (lt rfl rfl) rfl <| W.q (mv rfl) rfl <| W.sp (t := _) 26 rfl (fun g5 => ?_) (fun g5 => ?_)
        · -- True
          refine W.sk rfl rfl g5 rfl <| W.sk rfl rfl g5 rfl <| W.sk rfl rfl g5 rfl <| W.q (pkt rfl g5 rfl) rfl <| W.q (mv rfl) rfl <| W.sk rfl rfl rfl rfl <| W.sk rfl rfl rfl rfl <| W.sk rfl rfl rfl rfl <| W.q (pkt rfl rfl rfl) rfl <| W.q (mv rfl) rfl <| W.sk rfl rfl rfl rfl <| W.sk rfl rfl rfl rfl <| W.sk rfl rfl rfl rfl <| W.sk rfl rfl rfl rfl <| W.sk rfl rfl rfl rfl <| W.q (pkt rfl rfl rfl) rfl <| W.q (sa rfl) rfl <| W.nil <| key5.weak (Sub.co rfl ?_ <| Sub.cons rfl <| Sub.nil _) .rfl
          all_goals (show Value.bool _ = Value.bool _; congr 1; grind)
        · -- False
          refine W.qg rfl rfl g5 (fa Try.fof66_3 rfl) rfl <| W.qg rfl rfl g5 (ld Try.sc3 rfl (Cell.at .hd rfl)) rfl <| W.qg rfl rfl g5 (gt rfl rfl) rfl <| W.q (pkf rfl g5 rfl) rfl <| W.q (mv rfl) rfl <| W.sp (t := _) 31 rfl (fun g6 => ?_) (fun g6 => ?_)
          · -- True
            refine W.sk rfl rfl g6 rfl <| W.sk rfl rfl g6 rfl <| W.sk rfl rfl g6 rfl <| W.q (pkt rfl g6 rfl) rfl <| W.q (mv rfl) rfl <| W.sk rfl rfl rfl rfl <| W.sk rfl rfl rfl rfl <| W.sk rfl rfl rfl rfl <| W.sk rfl rfl rfl rfl <| W.sk rfl rfl rfl rfl <| W.q (pkt rfl rfl rfl) rfl <| W.q (sa rfl) rfl <| W.nil <| key5.weak (Sub.co rfl ?_ <| Sub.cons rfl <| Sub.nil _) .rfl
            all_goals (show Value.bool _ = Value.bool _; congr 1; grind)
          · -- False
            refine W.qg rfl rfl g6 (fa Try.fof66_2 rfl) rfl <| W.qg rfl rfl g6 (ld Try.sc3 rfl (Cell.at .hd rfl)) rfl <| W.qg rfl rfl g6 (lt rfl rfl) rfl <| W.q (pkf rfl g6 rfl) rfl <| W.q (mv rfl) rfl <| W.sp (t := _) 36 rfl (fun g7 => ?_) (fun g7 => ?_)
            · -- True
              refine W.sk rfl rfl g7 rfl <| W.sk rfl rfl g7 rfl <| W.sk rfl rfl g7 rfl <| W.sk rfl rfl g7 rfl <| W.sk rfl rfl g7 rfl <| W.q (pkt rfl g7 rfl) rfl <| W.q (sa rfl) rfl <| W.nil <| key5.weak (Sub.co rfl ?_ <| Sub.cons rfl <| Sub.nil _) .rfl
              all_goals (show Value.bool _ = Value.bool _; congr 1; grind)
            · -- False
              refine W.qg rfl rfl g7 (fa Try.fof66_2 rfl) rfl <| W.qg rfl rfl g7 (ld Try.sc3 rfl (Cell.at .hd rfl)) rfl <| W.qg rfl rfl g7 (fa Try.fof66_3 rfl) rfl <| W.qg rfl rfl g7 (ld Try.sc3 rfl (Cell.at .hd rfl)) rfl <| W.qg rfl rfl g7 (ge rfl rfl) rfl <| W.q (pkf rfl g7 rfl) rfl <| W.q (sa rfl) rfl <| W.nil <| key5.weak (Sub.co rfl ?_ <| Sub.cons rfl <| Sub.nil _) .rfl
              all_goals (show Value.bool _ = Value.bool _; congr 1; grind)
      refine G.cdd rfl (fun h8 => ?_) (fun h8 => ?_)
      · -- h8 True
        refine G.seq <| G.reg <| W.q (sa rfl) rfl <| W.nil <| ret1 hX Try.results74 rfl fun w hm => done (H := []) rfl ?_ (Dr.ent (Dr.new rfl) w hm)
        grind [checkR]
      · -- h8 False
        refine G.seq <| G.join [(43, .bool (decide ((p.kind.toNat : Int) ≠ 1 ∧ 1 < p.count)))] [(1, _)] (Sub.cons rfl <| Sub.nil _) (fun key7 => ?_) ?_
        · -- region 7
          refine G.reg <| W.q (fa Try.fof66_0 rfl) rfl <| W.q (ld Try.sc5 rfl (Cell.at .hd rfl)) rfl <| W.q (ne rfl rfl) rfl <| W.q (mv rfl) rfl <| W.sp (t := _) 47 rfl (fun g9 => ?_) (fun g9 => ?_)
          · -- True
            refine W.qg rfl rfl g9 (fa Try.fof66_3 rfl) rfl <| W.qg rfl rfl g9 (ld Try.sc3 rfl (Cell.at .hd rfl)) rfl <| W.qg rfl rfl g9 (gt rfl rfl) rfl <| W.q (pkt rfl g9 rfl) rfl <| W.q (sa rfl) rfl <| W.nil <| key7.weak (Sub.co rfl ?_ <| Sub.cons rfl <| Sub.nil _) .rfl
            all_goals (show Value.bool _ = Value.bool _; congr 1; grind)
          · -- False
            refine W.sk rfl rfl g9 rfl <| W.sk rfl rfl g9 rfl <| W.sk rfl rfl g9 rfl <| W.q (pkf rfl g9 rfl) rfl <| W.q (sa rfl) rfl <| W.nil <| key7.weak (Sub.co rfl ?_ <| Sub.cons rfl <| Sub.nil _) .rfl
            all_goals (show Value.bool _ = Value.bool _; congr 1; grind)
        refine G.cdd rfl (fun h10 => ?_) (fun h10 => ?_)
        · -- h10 True
          refine G.seq <| G.reg <| W.q (sa rfl) rfl <| W.nil <| ret1 hX Try.results74 rfl fun w hm => done (H := []) rfl ?_ (Dr.ent (Dr.new rfl) w hm)
          grind [checkR]
        · -- h10 False
          refine G.seq <| G.join [(52, .bool (decide ((p.kind.toNat : Int) = 2 ∧ ((p.id.toNat : Int) ≠ 0 ∨ 0 < (p.data.length : Int)))))] [] (Sub.nil _) (fun key9 => ?_) ?_
          · -- region 9
            refine G.reg <| W.q (fa Try.fof66_0 rfl) rfl <| W.q (ld Try.sc5 rfl (Cell.at .hd rfl)) rfl <| W.q (eq rfl rfl) rfl <| W.q (mv rfl) rfl <| W.sp (t := _) 56 rfl (fun g11 => ?_) (fun g11 => ?_)
            · -- True
              refine W.qg rfl rfl g11 (fa Try.fof66_1 rfl) rfl <| W.qg rfl rfl g11 (ld Try.sc29 rfl (Cell.at .hd rfl)) rfl <| W.qg rfl rfl g11 (ne rfl rfl) rfl <| W.qg rfl rfl g11 (mv rfl) rfl <| W.sp (t := _) 60 rfl (fun g12 => ?_) (fun g12 => ?_)
              · -- True
                refine W.sk rfl rfl g12 rfl <| W.sk rfl rfl g12 rfl <| W.sk rfl rfl g12 rfl <| W.sk rfl rfl g12 rfl <| W.qg rfl rfl g11 (pkt rfl g12 rfl) rfl <| W.q (pkt rfl g11 rfl) rfl <| W.q (sa rfl) rfl <| W.nil <| key9.weak (Sub.co rfl ?_ <| Sub.nil _) .rfl
                all_goals (show Value.bool _ = Value.bool _; congr 1; grind)
              · -- False
                refine W.qg rfl rfl g12 (fa Try.fof66_4 rfl) rfl <| W.qg rfl rfl g12 (ld Try.sc22 rfl (Cell.at .hd rfl)) rfl <| W.qg rfl rfl g12 (ln Try.esl22 rfl) rfl <| W.qg rfl rfl g12 (gt rfl rfl) rfl <| W.qg rfl rfl g11 (pkf rfl g12 rfl) rfl <| W.q (pkt rfl g11 rfl) rfl <| W.q (sa rfl) rfl <| W.nil <| key9.weak (Sub.co rfl ?_ <| Sub.nil _) .rfl
                all_goals (show Value.bool _ = Value.bool _; congr 1; grind)
            · -- False
              refine W.sk rfl rfl g11 rfl <| W.sk rfl rfl g11 rfl <| W.sk rfl rfl g11 rfl <| W.sk rfl rfl g11 rfl <| W.sku rfl rfl rfl <| W.sku rfl rfl rfl <| W.sku rfl rfl rfl <| W.sku rfl rfl rfl <| W.sk rfl rfl g11 rfl <| W.q (pkf rfl g11 rfl) rfl <| W.q (sa rfl) rfl <| W.nil <| key9.weak (Sub.co rfl ?_ <| Sub.nil _) .rfl
              all_goals (show Value.bool _ = Value.bool _; congr 1; grind)
          refine G.cdd rfl (fun h13 => ?_) (fun h13 => ?_)
          · -- h13 True
            refine G.seq <| G.reg <| W.q (sa rfl) rfl <| W.nil <| ret1 hX Try.results74 rfl fun w hm => done (H := []) rfl ?_ (Dr.ent (Dr.new rfl) w hm)
            grind [checkR]
          · -- h13 False
            refine G.skip <| G.inb <| G.seq <| G.reg <| W.q (sa rfl) rfl <| W.nil <| ret1 hX Try.results74 rfl fun w hm => done (H := []) rfl ?_ (Dr.ent (Dr.new rfl) w hm)
            grind [checkR]
end Go.Proofs.Ytjalojbihpdghaa
