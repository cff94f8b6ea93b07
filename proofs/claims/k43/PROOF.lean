import PyProof.Rows.All
import Wide.All
import OpenK.AllK
import Wide.FinOn
import PySem.Challenge.RW_corpuskeep_k43_pages_due_turn
open PySem PySem.W PyProof.Rows
set_option Elab.async false
set_option maxRecDepth 100000 in
set_option maxHeartbeats 8000000 in
theorem PySem.Challenge.cw_corpuskeep_k43_pages_due_turn_holds : PySem.Challenge.rw_corpuskeep_k43_pages_due_turn.Holds := by
  open_k
