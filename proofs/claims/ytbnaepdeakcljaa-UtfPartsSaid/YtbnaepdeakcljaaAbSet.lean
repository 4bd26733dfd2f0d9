/-
The rewriting rules of the abstract machine, as a set. Conditions: none.
-/
import Derived.Test.YtbnaepdeakcljaaAbNum
set_option linter.unusedSimpArgs false
set_option linter.unusedVariables false
set_option linter.unusedSectionVars false
namespace Go.Ab
open Go Go.RowKit
attribute [go_sem] Bool.not_false Bool.not_true xThen'_normal busyQ_mk roundQ_normal roundQ_ret roundQ_exit zipSlots roundSlots delBox awp_skip awp_reg awp_seq awp_cond awp_block awp_loop awp_exit awp_ret xThen_normal xThen_exit xThen_ret xBlock_normal xBlock_ret xBlock_exit arun_nil arun_none arun_some awp_dreg drun_nil drun_none drun_some d_mv d_pick d_bin d_eqB d_eqg d_not d_cvI d_ext d_len d_lenS d_lenA d_mn d_mx d_mkf d_bd d_fa d_ia d_iaA d_ixS d_ixA d_slc d_slS d_ld d_fld d_cvBS d_alc d_box d_st d_bs d_app d_call put_some put_none del_some del_none s_mv s_pick s_bin s_eqB s_eqg s_not s_cvI s_ext s_len s_lenS s_lenA s_mn s_mx s_mkf s_bd s_fa s_ia s_iaA s_ixS s_slc s_slS s_ld s_fld s_cvBS s_bs0 d_bs0 s_ixA s_alc s_box s_st s_bs s_app s_call allocGo_some storeGo_some rowGo_some appGo_some pGo_some bGo_true bGo_false gGo_tt gGo_tf gGo_ft gGo_ff gGo_u gGo_undef cGo_t cGo_f must_true look_nil look_cons ev_t ev_k ev_f vop binV binInt takeCells idxOf elsOf State.evs State.evo bnd loOf hiOf tgt boxAt setBox hasTip dropTip AV.cells AV.one allOne srcE valsL vals lenAll oneV evParts fillA setAll eqK eqV bytesOf Value.oneCell' if_true if_false Option.map_some Option.bind_some Nat.zero_ne_one Nat.one_ne_zero ite_true ite_false IntKind.bits Nat.min_def Bool.and_self Bool.and_true Bool.true_and List.map_cons List.map_nil List.drop_zero List.drop_succ_cons List.drop_nil List.getElem?_cons_zero List.getElem?_cons_succ List.getElem?_nil List.take_zero List.take_succ_cons List.take_nil List.nil_append List.cons_append List.append_nil List.length_cons List.length_nil and_self and_true true_and Nat.zero_add Nat.add_zero AV.shift AV.shiftL idx unOb_nil unOb_lit unOb_sl unOb_ep unOb_bp unOb_fn unOb_ag unOb_sn unOb_rf unOb_ob obAt awp_rfn List.set_cons_zero List.set_cons_succ decide_true decide_false List.all_cons List.all_nil
end Go.Ab
