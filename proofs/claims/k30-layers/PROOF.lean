import PyProof.Rows.All
import Wide.All
import OpenK.AllK
import Wide.FinOn
import PySem.Challenge.RW_boundbook_k30_layers_and_faces
open PySem PySem.W PySem.W.X PyProof.Rows
set_option Elab.async false
set_option maxRecDepth 100000 in
set_option maxHeartbeats 0 in
theorem PySem.Challenge.cw_boundbook_k30_layers_and_faces_holds : PySem.Challenge.rw_boundbook_k30_layers_and_faces.Holds := by
  open_z
